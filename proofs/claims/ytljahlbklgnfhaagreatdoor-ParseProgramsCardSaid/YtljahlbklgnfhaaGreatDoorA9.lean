import Derived.Test.YtljahlbklgnfhaaGreatDoorA5
import Derived.Laws.StructEq
import Derived.Laws.IdiomStrings
set_option linter.unusedVariables false
set_option linter.unusedSimpArgs false
set_option linter.defProp false
namespace Go.Abs
open Go.RowKit
section
variable {E:Env}{γ:List Gh}{H:List AObj}{Φ:Nat→Nat→Prop}{w:World}
theorem Q2j{v:Value}{k:IntKind}{n:Int}(h:Rep Φ w v (.int k n)):v=.int k n:=by cases h;rfl
theorem Q8e{v:Value}{b:Bool}(h:Rep Φ w v (.bool b)):v=.bool b:=by cases h;rfl
theorem Q1u{v:Value}{s:List UInt8}(h:Rep Φ w v (.str s)):v=.string ⟨⟨s⟩⟩:=by cases h;rfl
theorem Z3o{t e:TypeId}{te:TypeInfo}(hd:E.P.underlying t=some (.slice e))(he:E.P.info? e=some te)(b o len cap:Nat)(k:IntKind)(i:Int)(h0:0≤i)(h1:i.toNat<len):
 (Instr.indexAt t (.slice (some ⟨b,o,none⟩) len cap) (.int k i)).run E.P w=.ok (.pointer (some ⟨b,o+i.toNat * te.size,none⟩)) w:=by
 have hi:0≤i∧i<(len:Int):=⟨h0,by omega⟩
 simp[Instr.indexAt,asIntOf,run_underlying hd,hi,Q1d he,Addr.add_lit]
theorem Z2q{t:TypeId}{a c:Value}{x y r:AV}(ha:ARel γ H Φ w a x)(hc:ARel γ H Φ w c y)(h:Q2q E.T H t x y=some r):
 ∃u,(Instr.indexAt t a c).run E.P w=.ok u w∧ARel γ H Φ w u r:=by
 unfold Q2q at h
 split at h
 ·rename_i e _ _ _ hT
  split at h
  ·rename_i te k i hTe
   obtain⟨d,hd,hk⟩:=(E.hT _ _ hT).und
   have hdd:=Q3g hk
   rw[hdd]at hd
   obtain⟨ti,hti,htis⟩:=(E.hT _ _ hTe).size
   have hcv:=Q2j (Q0k hc)
   subst hcv
   split at h
   ·rename_i h0
    cases ha with
    | @pv v p hp=>
      cases hp with
      | slice b o len cap sz xs vs hl hcc hm hsz h1 hcell hrep=>
        simp only at h
        split at h
        ·rename_i z hz
         split at h
         ·rename_i hzs
          simp only[Option.some.injEq]at h
          subst h
          have hlt:=(List.getElem?_eq_some_iff.1 hz).1
          have hsz':sz=te.size:=by rw[←hzs];exact(hsz z (List.mem_of_getElem? hz)).symm
          have hzl:z.cells.length=sz:=by rw[hzs,hsz']
          have hmul:i.toNat * sz+sz≤xs.length * sz:=by
           have:=Nat.mul_le_mul_right sz (show i.toNat+1≤xs.length from hlt)
           rw[Nat.succ_mul]at this
           exact this
          have hfl:=Q0h hsz
          refine⟨_,Z3o hd hti b o len cap k i h0 (by omega),.pptr b _ _ (fun j=>vs (i.toNat * sz+j)) (fun q hq=>h1 q (Q5c (List.mem_of_getElem? hz) hq)) (fun j hj=>?_) (fun j q hq=>?_)⟩
          ·have:=hcell (i.toNat * sz+j) (by omega)
           rw[htis,←hsz',Nat.add_assoc]
           exact this
          have hj:j<z.cells.length:=(List.getElem?_eq_some_iff.1 hq).1
          refine hrep _ q ?_
          rw[Q2c hsz i.toNat j z hz (by omega)]
          exact hq
         cases h
        cases h
      | sliceNil=>simp at h
      | sliceAny A cap hm=>simp at h
      | bool=>simp at h
      | int=>simp at h
      | str=>simp at h
      | nil=>simp at h
      | ifc t v=>simp at h
      | nilp=>simp at h
      | agg=>simp at h
    | vec A l n cap e' sz len hrow hn hA hcur=>
      simp only[hrow]at h
      split at h
      ·rename_i hlt
       obtain⟨hlt,hsz⟩:=hlt
       simp only[Option.some.injEq]at h
       subst h
       obtain⟨b,rfl⟩:=hA (by omega)
       exact⟨_,Z3o hd hti b 0 n cap k i h0 hlt,.vptr b _ l n i.toNat 0 e' sz len hrow hn (fun hx=>⟨cap,hcur hx,by rw[htis,hsz];omega⟩)⟩
      cases h
    | any=>simp at h
    | ref=>simp at h
    | pptr=>simp at h
    | vptr=>simp at h
    | mref=>simp at h
    | selfp=>simp at h
    | nils=>simp at h
    | ifc=>simp at h
    | full=>simp at h
    | tup=>simp at h
    | agg=>simp at h
    | fn=>simp at h
   cases h
  cases h
 cases h
theorem Z9w{t:TypeId}{a c:Value}{x y r:AV}(ha:ARel γ H Φ w a x)(hc:ARel γ H Φ w c y)(h:Q1b E.T t x y=some r):
 ∃u,(Instr.index t a c).run E.P w=.ok u w∧ARel γ H Φ w u r:=by
 unfold Q1b at h
 split at h
 ·rename_i s k i hT
  obtain⟨d,hd,hk⟩:=(E.hT _ _ hT).und
  have hdd:=Z1w hk
  rw[hdd]at hd
  have hcv:=Q2j (Q0k hc)
  have hav:=Q1u (Q0k ha)
  subst hcv;subst hav
  split at h
  ·rename_i h0
   split at h
   ·rename_i b hb
    simp only[Option.some.injEq]at h
    subst h
    have hlt:=(List.getElem?_eq_some_iff.1 hb)
    obtain⟨hlt,hbe⟩:=hlt
    have hget:(⟨⟨s⟩⟩:ByteArray)[i.toNat]?=some b:=by
     rw[ByteArray.getElem?_lt' _ _ hlt]
     exact congrArg some hbe
    refine⟨_,?_,.pv (.int .u8 _)⟩
    simp[Instr.index,asIntOf,run_underlying hd,h0,hget]
   cases h
  cases h
 cases h
theorem Q3y{d n:Nat}{o:Option AV}{v:Option Value}(h:Q6r d o=some n)(hr:∀a x,o=some a→v=some x→ARel γ H Φ w x a)(hn:o=none↔v=none):
 (o=none∧v=none∧n=d)∨∃k,v=some (.int k (n:Int)):=by
 unfold Q6r at h
 split at h
 ·simp only[Option.some.injEq]at h
  exact .inl ⟨rfl,hn.1 rfl,h.symm⟩
 ·rename_i k i
  split at h
  ·rename_i h0
   simp only[Option.some.injEq]at h
   subst h
   cases v with
   | none=>exact absurd (hn.2 rfl) (by simp)
   | some x=>
     have hx:=Q2j (Q0k (hr _ x rfl rfl))
     subst hx
     exact .inr ⟨k,by rw[Int.toNat_of_nonneg h0]⟩
  cases h
 cases h
theorem Q8c(isSlice:Bool)(len cap l hh:Nat)(lo hi:Option Value)(hlo:(lo=none∧l=0)∨∃k,lo=some (.int k (l:Int)))(hhi:(hi=none∧hh=len)∨∃k,hi=some (.int k (hh:Int)))
 (h1:l≤hh) (h2:hh≤cap):(Instr.sliceBounds isSlice len cap lo hi none).run E.P w=.ok (l,hh,cap) w:=by
 have hb:∀ (k:IntKind) (i y:Nat) (code:BoundsCode),i≤y→(Instr.sliceBound (.int k (i:Int)) y code).run E.P w=.ok i w:=fun k i y code hi=>by
  have:0≤(i:Int)∧(i:Int)≤(y:Int):=⟨by omega,by omega⟩
  simp[Instr.sliceBound,asIntOf,this]
 unfold Instr.sliceBounds
 rcases hlo with⟨rfl,rfl⟩|⟨k,rfl⟩<;>rcases hhi with⟨rfl,rfl⟩|⟨k',rfl⟩<;>simp[hb,h1,h2]
theorem Z9q(hI:OInv E γ H Φ w){t:TypeId}{a:Value}{x r:AV}{lo hi:Option AV}{vlo vhi:Option Value}(ha:ARel γ H Φ w a x)
 (hlr:∀a x,lo=some a→vlo=some x→ARel γ H Φ w x a) (hln:lo=none↔vlo=none) (hhr:∀a x,hi=some a→vhi=some x→ARel γ H Φ w x a) (hhn:hi=none↔vhi=none)
 (h:Z1y E.T H t x lo hi=some r):∃u,(Instr.sliceAt t a vlo vhi none).run E.P w=.ok u w∧ARel γ H Φ w u r:=by
 unfold Z1y at h
 split at h
 ·rename_i hT
  obtain⟨d,hd,hk⟩:=(E.hT _ _ hT).und
  have hdd:=Z1w hk
  rw[hdd]at hd
  split at h
  ·rename_i s
   have hav:=Q1u (Q0k ha)
   subst hav
   split at h
   ·rename_i l hh hl hhh
    split at h
    ·rename_i hb
     obtain⟨hb1,hb2⟩:=hb
     simp only[Option.some.injEq]at h
     subst h
     have hlo:(vlo=none∧l=0)∨∃k,vlo=some (.int k (l:Int)):=by
      rcases Q3y hl hlr hln with⟨_,h1,h2⟩|h1
      ·exact .inl ⟨h1,h2⟩
      exact .inr h1
     have hhi:(vhi=none∧hh=s.length)∨∃k,vhi=some (.int k (hh:Int)):=by
      rcases Q3y hhh hhr hhn with⟨_,h1,h2⟩|h1
      ·exact .inl ⟨h1,h2⟩
      exact .inr h1
     have hrb:=Q8c (E:=E) (w:=w) false s.length s.length l hh vlo vhi hlo hhi hb1 hb2
     have hsz:(⟨⟨s⟩⟩:ByteArray).size=s.length:=rfl
     refine⟨.string ((⟨⟨s⟩⟩:ByteArray).extract l hh),?_,?_⟩
     ·simp[Instr.sliceAt,Instr.slice,run_underlying hd,hsz,hrb]
     rw[ByteArray.extract_mk]
     exact .pv (.str _)
    cases h
   cases h
  cases h
 ·rename_i e _ _ _ hT
  obtain⟨d,hd,hk⟩:=(E.hT _ _ hT).und
  have hdd:=Q3g hk
  rw[hdd]at hd
  split at h
  ·rename_i te xs hTe hpv
   obtain⟨ti,hti,htis⟩:=(E.hT _ _ hTe).size
   have hrep:=Q1n hI ha hpv
   split at h
   ·rename_i l hh hl hhh
    split at h
    ·rename_i hb
     obtain⟨hb1,hb2,hb3⟩:=hb
     simp only[Option.some.injEq]at h
     subst h
     have hsize:∀y∈xs,y.cells.length=te.size:=fun y hy=>by
      have:=List.all_eq_true.1 hb3 y hy
      simpa using this
     have hlo:(vlo=none∧l=0)∨∃k,vlo=some (.int k (l:Int)):=by
      rcases Q3y hl hlr hln with⟨_,h1,h2⟩|h1
      ·exact .inl ⟨h1,h2⟩
      exact .inr h1
     have hhi:(vhi=none∧hh=xs.length)∨∃k,vhi=some (.int k (hh:Int)):=by
      rcases Q3y hhh hhr hhn with⟨_,h1,h2⟩|h1
      ·exact .inl ⟨h1,h2⟩
      exact .inr h1
     cases hrep with
     | sliceNil=>
       simp only[List.length_nil]at hb2
       have hh0:hh=0:=by omega
       have hl0:l=0:=by omega
       subst hh0;subst hl0
       have hrb:=Q8c (E:=E) (w:=w) true 0 0 0 0 vlo vhi hlo hhi (by omega) (by omega)
       refine⟨.slice none 0 0,?_,.pv .sliceNil⟩
       simp[Instr.sliceAt,Instr.slice,run_underlying hd,hrb,Q1d hti]
     | sliceAny A cap hm=>
       simp only[List.length_nil]at hb2
       have hh0:hh=0:=by omega
       have hl0:l=0:=by omega
       subst hh0;subst hl0
       have hrb:=Q8c (E:=E) (w:=w) true 0 cap 0 0 vlo vhi hlo hhi (by omega) (by omega)
       refine⟨.slice (some A) 0 cap,?_,.pv (.sliceAny A cap hm)⟩
       simp only[Instr.sliceAt,Instr.slice,bind,Sem.run_bind',run_underlying hd,Result.andThen_ok,hrb,Q1d hti]
       by_cases hcl:cap=0
       ·simp[hcl]
       simp[hcl,Addr.add]
     | slice b o len cap sz xs vs hlen hcc hm hsz h1 hcell hrp=>
       have hrb:=Q8c (E:=E) (w:=w) true len cap l hh vlo vhi hlo (by rw[←hlen];exact hhi) hb1 (by omega)
       refine⟨.slice (some (if cap=l then⟨b,o,none⟩else⟨b,o+l * ti.size,none⟩)) (hh-l) (cap-l),?_,?_⟩
       ·simp only[Instr.sliceAt,Instr.slice,bind,Sem.run_bind',run_underlying hd,Result.andThen_ok,hrb,Q1d hti]
        by_cases hcl:cap=l
        ·simp[hcl]
        simp[hcl,Addr.add_lit]
       have hszz:xs=[]∨sz=ti.size:=by
        cases xs with
        | nil=>exact .inl rfl
        | cons y ys=>exact .inr (by rw[htis,←hsize y (by simp),hsz y (by simp)])
       have hln':((xs.drop l).take (hh-l)).length=hh-l:=by
        rw[List.length_take,List.length_drop]
        omega
       have hfl:flat ((xs.drop l).take (hh-l))=((flat xs).drop (l * sz)).take ((hh-l) * sz):=by
        rw[X0p (sz:=sz) (fun y hy=>hsz y (List.mem_of_mem_drop hy)) _ (by rw[List.length_drop];omega),X0q hsz _ (by omega)]
       have hsub:∀y∈(xs.drop l).take (hh-l),y∈xs:=fun y hy=>List.mem_of_mem_drop (List.mem_of_mem_take hy)
       have hflx:=Q0h hsz
       by_cases hcl:cap=l
       ·rw[if_pos hcl]
        have hnil:(xs.drop l).take (hh-l)=[]:=List.eq_nil_of_length_eq_zero (by omega)
        rw[hnil,show hh-l=0 from by omega]
        exact .pv (.slice b o 0 (cap-l) sz [] vs rfl (by omega) (by omega) (fun x hx=>by cases hx) (fun x hx=>by cases hx) (fun k hk=>absurd hk (by simp[Q3k])) (fun k c hc=>by simp[Q3k]at hc))
       rw[if_neg hcl]
       refine .pv (.slice b _ _ _ sz _ (fun k=>vs (l * sz+k)) hln' (by omega) (by omega) (fun y hy=>hsz y (hsub y hy)) (fun c hc=>h1 c ?_) (fun k hk=>?_) (fun k c hc=>?_))
       ·obtain⟨y,hy,hc'⟩:=List.mem_flatMap.1 hc
        exact Q5c (hsub y hy) hc'
       ·rw[hfl,List.length_take,List.length_drop]at hk
        rcases hszz with rfl|hszz
        ·simp[Q3k]at hk
        have:=hcell (l * sz+k) (by omega)
        rw[←hszz,Nat.add_assoc]
        exact this
       rw[hfl,List.getElem?_take]at hc
       split at hc
       ·rw[List.getElem?_drop]at hc
        exact hrp _ c hc
       cases hc
    cases h
   cases h
  cases h
 cases h
end
end Go.Abs
namespace Go.Abs
open Go.RowKit
section
variable {E:Env}{γ:List Gh}{H:List AObj}{Φ:Nat→Nat→Prop}{w:World}
def Q1f(Φ:Nat→Nat→Prop)(w:World)(vs:List Value)(cs:List PV):Prop:=
 vs.length=cs.length∧(∀c∈cs,c.one=true)∧∀ (k:Nat) v c,vs[k]?=some v→cs[k]?=some c→Rep Φ w v c
theorem Q4g{v:Value}{p:PV}(h:Rep Φ w v p):Q1f Φ w v.cells.toList p.cells:=by
 cases h with
 | agg vs cs hl h1 hrep=>exact⟨hl,h1,hrep⟩
 | bool b=>exact⟨rfl,by simp[PV.cells,PV.one],fun k v c hv hc=>by cases k<;>simp[Value.cells,PV.cells]at hv hc;subst hv hc;exact .bool b⟩
 | int k' n=>exact⟨rfl,by simp[PV.cells,PV.one],fun k v c hv hc=>by cases k<;>simp[Value.cells,PV.cells]at hv hc;subst hv hc;exact .int k' n⟩
 | str s=>exact⟨rfl,by simp[PV.cells,PV.one],fun k v c hv hc=>by cases k<;>simp[Value.cells,PV.cells]at hv hc;subst hv hc;exact .str s⟩
 | nil=>exact⟨rfl,by simp[PV.cells,PV.one],fun k v c hv hc=>by cases k<;>simp[Value.cells,PV.cells]at hv hc;subst hv hc;exact .nil⟩
 | ifc t' v'=>exact⟨rfl,by simp[PV.cells,PV.one],fun k v c hv hc=>by cases k<;>simp[Value.cells,PV.cells]at hv hc;subst hv hc;exact .ifc t' v'⟩
 | nilp=>exact⟨rfl,by simp[PV.cells,PV.one],fun k v c hv hc=>by cases k<;>simp[Value.cells,PV.cells]at hv hc;subst hv hc;exact .nilp⟩
 | sliceNil=>exact⟨rfl,by simp[PV.cells,PV.one],fun k v c hv hc=>by cases k<;>simp[Value.cells,PV.cells]at hv hc;subst hv hc;exact .sliceNil⟩
 | sliceAny A cap hm=>exact⟨rfl,by simp[PV.cells,PV.one],fun k v c hv hcc=>by
    cases k<;>simp[Value.cells,PV.cells]at hv hcc;subst hv hcc;exact .sliceAny A cap hm⟩
 | slice b o len cap sz xs vs hl hc hm hsz h1 hcell hrep=>exact⟨rfl,by simp[PV.cells,PV.one],fun k v c hv hcc=>by
    cases k<;>simp[Value.cells,PV.cells]at hv hcc;subst hv hcc;exact .slice b o len cap sz xs vs hl hc hm hsz h1 hcell hrep⟩
theorem Z3d(off:Nat):∀ (ps:List Value) (j:Nat) (cs:Array Value),off+j+ps.length≤cs.size→
 ((ps.zipIdx j).foldl (fun cs (c,j)=>cs.setIfInBounds (off+j) c) cs).size=cs.size∧
 ∀k:Nat,((ps.zipIdx j).foldl (fun cs (c,j)=>cs.setIfInBounds (off+j) c) cs)[k]?=if off+j≤k∧k<off+j+ps.length then ps[k-(off+j)]? else cs[k]?
 | [],j,cs,_=>⟨rfl,fun k=>by
    rw[if_neg (by simp)]
    rfl⟩
 | p::ps,j,cs,h=>by
   simp only[List.length_cons]at h
   obtain⟨h1,h2⟩:=Z3d off ps (j+1) (cs.setIfInBounds (off+j) p) (by simp;omega)
   rw[List.zipIdx_cons,List.foldl_cons]
   refine⟨by rw[h1];simp,fun k=>?_⟩
   rw[h2 k]
   by_cases hk:k=off+j
   ·subst hk
    rw[if_neg (by omega),if_pos ⟨by omega,by simp⟩,Array.getElem?_setIfInBounds,if_pos rfl,if_pos (by omega)]
    simp
   by_cases hin:off+(j+1)≤k∧k<off+(j+1)+ps.length
   ·rw[if_pos hin,if_pos ⟨by omega,by simp only[List.length_cons];omega⟩]
    rw[show k-(off+j)=k-(off+(j+1))+1 from by omega,List.getElem?_cons_succ]
   rw[if_neg hin,if_neg (by simp only[List.length_cons];omega),Array.getElem?_setIfInBounds,if_neg (by omega)]
theorem J3y(cs ps:List PV)(off k:Nat)(h:off+ps.length≤cs.length):(Q1e cs off ps)[k]?=if off≤k∧k<off+ps.length then ps[k-off]? else cs[k]?:=by
 unfold Q1e
 have hl:(cs.take off).length=off:=by rw[List.length_take];omega
 by_cases h1:k<off
 ·rw[if_neg (by omega),List.append_assoc,List.getElem?_append_left (by omega),List.getElem?_take,if_pos h1]
 rw[List.append_assoc,List.getElem?_append_right (by omega),hl]
 by_cases h2:k<off+ps.length
 ·rw[if_pos ⟨by omega,h2⟩,List.getElem?_append_left (by omega)]
 rw[if_neg (by omega),List.getElem?_append_right (by omega),List.getElem?_drop]
 congr 1
 omega
theorem J9g(cs ps:List PV)(off:Nat)(h:off+ps.length≤cs.length):(Q1e cs off ps).length=cs.length:=by
 unfold Q1e
 simp only[List.length_append,List.length_take,List.length_drop]
 omega
theorem Z6n(hI:OInv E γ H Φ w)(fs:List (Nat×Nat))(place:Nat→Option (Nat×Nat))(hp:∀ (i:Nat) p,fs[i]?=some p→place i=some p):
 ∀ (parts:List (Nat×AV)) (vparts:List (Nat×Value)) (cs:List PV) (vs:Array Value) (r:List PV),vparts.length=parts.length→
  (∀ (j:Nat) (p:Nat×AV) (q:Nat×Value),parts[j]?=some p→vparts[j]?=some q→q.1=p.1∧ARel γ H Φ w q.2 p.2)→Q1f Φ w vs.toList cs→
  Z5q H fs cs parts=some r→∃us,Instr.fill place vs vparts=some us∧Q1f Φ w us.toList r
 | [],vparts,cs,vs,r,hl,_,hcr,h=>by
   simp only[Z5q,Option.some.injEq]at h
   subst h
   cases vparts with
   | nil=>exact⟨vs,rfl,hcr⟩
   | cons a b=>simp at hl
 | (i,v)::parts,[],cs,vs,r,hl,_,_,_=>by simp at hl
 | (i,v)::parts,(i',v')::vparts,cs,vs,r,hl,hrel,hcr,h=>by
   simp only[Z5q]at h
   split at h
   ·rename_i off sz p hf hpv
    split at h
    ·rename_i hsz
     obtain⟨hsz,hoff⟩:=hsz
     obtain⟨he,hr⟩:=hrel 0 (i,v) (i',v') rfl rfl
     simp only at he
     subst he
     have hrep:=Q1n hI hr hpv
     obtain⟨hcl,hc1,hcc⟩:=Q4g hrep
     have hvl:v'.cells.size=sz:=by rw[←hsz,←hcl];simp
     obtain⟨hl1,hl2,hl3⟩:=hcr
     have hsize:vs.size=cs.length:=by rw[←hl1];simp
     obtain⟨f1,f2⟩:=Z3d off v'.cells.toList 0 vs (by simp;omega)
     have hfold:v'.cells.zipIdx.foldl (fun cs (c,j)=>cs.setIfInBounds (off+j) c) vs=(v'.cells.toList.zipIdx 0).foldl (fun cs (c,j)=>cs.setIfInBounds (off+j) c) vs:=by
      rw[←Array.foldl_toList,Array.toList_zipIdx]
     have hstep:Instr.fill place vs ((i',v')::vparts)=Instr.fill place ((v'.cells.toList.zipIdx 0).foldl (fun cs (c,j)=>cs.setIfInBounds (off+j) c) vs) vparts:=by
      rw[←hfold]
      simp only[Instr.fill,hp _ _ hf]
      rw[if_neg]
      simp only[hvl,ne_eq,not_true_eq_false,decide_false,Bool.false_or,decide_eq_true_eq]
      omega
     rw[hstep]
     have hpc:off+p.cells.length≤cs.length:=by omega
     refine Z6n hI fs place hp parts vparts _ _ r (by simpa using hl) (fun j a b ha hb=>hrel (j+1) a b (by simpa using ha) (by simpa using hb)) ⟨?_,fun c hc=>?_,fun k x c hx hc=>?_⟩ h
     ·rw[Array.length_toList,f1,J9g _ _ _ hpc,hsize]
     ·obtain⟨k,hk,hkc⟩:=List.getElem_of_mem hc
      have hg:(Q1e cs off p.cells)[k]?=some c:=by rw[List.getElem?_eq_getElem hk,hkc]
      rw[J3y _ _ _ _ hpc]at hg
      split at hg
      ·exact hc1 c (List.mem_of_getElem? hg)
      exact hl2 c (List.mem_of_getElem? hg)
     rw[Array.getElem?_toList,f2 k]at hx
     rw[J3y _ _ _ _ hpc]at hc
     have hlen:v'.cells.toList.length=p.cells.length:=hcl
     by_cases hin:off≤k∧k<off+p.cells.length
     ·rw[if_pos ⟨by omega,by omega⟩]at hx
      rw[if_pos hin]at hc
      exact hcc _ x c hx hc
     rw[if_neg (by omega)]at hx
     rw[if_neg hin]at hc
     exact hl3 k x c (by rw[Array.getElem?_toList];exact hx) hc
    cases h
   cases h
theorem J0a(hI:OInv E γ H Φ w){t:TypeId}{parts:List (Nat×AV)}{vparts:Array (Nat×Value)}(hl:vparts.size=parts.length)
 (hrel:∀ (j:Nat) (p:Nat×AV) (q:Nat×Value),parts[j]?=some p→vparts[j]?=some q→q.1=p.1∧ARel γ H Φ w q.2 p.2) {r:AV} (h:Z3u E.T H t parts=some r):
 ∃u,(Instr.build t vparts).run E.P w=.ok u w∧ARel γ H Φ w u r:=by
 unfold Z3u at h
 split at h
 ·rename_i fs _ _ z hT
  obtain⟨cs,hcs,rfl⟩:=Option.map_eq_some_iff.1 h
  obtain⟨i,d,hi,hs,_,hd,hk,hz⟩:=(E.hT _ _ hT).info
  obtain⟨fields,rfl,hsize,hfs⟩:=Q6e hk
  obtain⟨zv,hzv,hzl,_,hzr,_⟩:=hz z rfl
  have hplaces:∀ (l:List Field) (k:Nat),(∀ (j:Nat) f,l[j]?=some f→fields[k+j]?=some f)→
   (l.mapM (fun f=>do pure (f.offset,←sizeOf f.type):Field→Sem (Nat×Nat))).run E.P w=.ok ((fs.drop k).take l.length) w:=by
   intro l
   induction l with
   | nil=>intro k _;simp
   | cons f l ih=>
     intro k hf
     have h0:=hf 0 f rfl
     rw[Nat.add_zero]at h0
     have hkl:k<fs.length:=by
      have:=(Array.getElem?_eq_some_iff.1 h0).1
      omega
     obtain⟨hoff,fi,hfi,hfsz⟩:=hfs k f fs[k] h0 (List.getElem?_eq_getElem hkl)
     have hrest:=ih (k+1) (fun j g hg=>by
      have:=hf (j+1) g (by simpa using hg)
      rw[show k+1+j=k+(j+1) from by omega]
      exact this)
     have hone:(do pure (f.offset,←sizeOf f.type):Sem (Nat×Nat)).run E.P w=.ok fs[k] w:=by
      simp[Q1d hfi,hoff,hfsz]
     simp only[bind]at hrest
     simp only[List.mapM_cons,bind,Sem.run_bind']at hone ⊢
     rw[hone]
     simp only[Result.andThen_ok,hrest]
     rw[List.drop_eq_getElem_cons hkl,List.length_cons,List.take_succ_cons]
     rfl
  have hmap:(fields.mapM (fun f=>do pure (f.offset,←sizeOf f.type):Field→Sem (Nat×Nat))).run E.P w=.ok fs.toArray w:=by
   have:=hplaces fields.toList 0 (fun j f hf=>by simpa using hf)
   rw[Array.mapM_eq_mapM_toList,Sem.run_map,this]
   simp[hsize]
  have hz1:∀c∈z,c.one=true:=fun c hc=>by
   obtain⟨k,hkk,hkc⟩:=List.getElem_of_mem hc
   have hkv:k<zv.cells.toList.length:=by omega
   exact(hzr k zv.cells.toList[k] c (List.getElem?_eq_getElem hkv) (by rw[List.getElem?_eq_getElem hkk,hkc])).1
  obtain⟨us,hus,hur⟩:=Z6n hI fs (fs.toArray[·]?) (fun i p hp=>by simpa using hp) parts vparts.toList z zv.cells cs (by simpa using hl)
   (fun j p q hp hq=>hrel j p q hp (by simpa using hq)) ⟨hzl,hz1,fun k v c hv hc=>(hzr k v c hv hc).2.1 Φ w⟩ hcs
  refine⟨.agg us,?_,.pv (.agg us.toList cs hur.1 hur.2.1 hur.2.2)⟩
  unfold Instr.build
  simp only[bind]at hmap
  simp only[bind,Sem.run_bind']
  have hzrun:(zeroValue t).run E.P w=.ok zv w:=by simp[zeroValue,typeInfo,hi,hzv]
  simp only[hzrun,Result.andThen_ok,run_underlying hd,Sem.run_bind',hmap]
  rw[hus]
  rfl
 cases h
end
end Go.Abs
namespace Go.Abs
open Go.RowKit
section
variable {E:Env}{γ:List Gh}{H:List AObj}{Φ:Nat→Nat→Prop}{w:World}
theorem J5t{t:TypeId}{ti:TI}(hT:TOne E.P t ti){z:PV}(h:J3m ti=some z):∃v,(zeroValue t).run E.P w=.ok v w∧∀ (Φ:Nat→Nat→Prop) (w:World),Rep Φ w v z:=by
 obtain⟨i,d,hi,hs,_,hd,hk,hz⟩:=hT.info
 unfold J3m at h
 split at h
 ·rename_i fs z' hfs hz'
  simp only[Option.some.injEq]at h
  subst h
  obtain⟨zv,hzv,hzl,_,hzr,ha,_⟩:=hz z' hz'
  obtain⟨cs,rfl⟩:=ha fs hfs
  refine⟨_,by simp[zeroValue,typeInfo,hi,hzv],fun Φ w=>.agg cs.toList z' hzl (fun c hc=>?_) (fun k v c hv hc=>(hzr k v c hv hc).2.1 Φ w)⟩
  obtain⟨k,hkk,hkc⟩:=List.getElem_of_mem hc
  have hkv:k<(Value.agg cs).cells.toList.length:=by omega
  exact(hzr k _ c (List.getElem?_eq_getElem hkv) (by rw[List.getElem?_eq_getElem hkk,hkc])).1
 ·cases h
 ·rename_i z' hz' k1 k2
  simp only[Option.some.injEq]at h
  subst h
  obtain⟨zv,hzv,hzl,_,hzr,_,ha⟩:=hz [z'] hz'
  refine⟨zv,by simp[zeroValue,typeInfo,hi,hzv],fun Φ w=>?_⟩
  have hc:=ha (fun fs e=>k1 fs e)
  exact(hzr 0 zv z' (by rw[hc];rfl) rfl).2.1 Φ w
 cases h
end
end Go.Abs
namespace Go.Abs
open Go.RowKit
section
variable {E:Env}{γ:List Gh}{H:List AObj}{Φ:Nat→Nat→Prop}{w:World}
theorem J6m(hI:OInv E γ H Φ w){ty t:TypeId}{v:Value}{x r:AV}(hx:ARel γ H Φ w v x)(h:qlen E.T H ty x=some r):
 ∃u,(Builtin.len_ #[ty] t #[v]).run E.P w=.ok u w∧ARel γ H Φ w u r:=by
 unfold qlen at h
 split at h
 ·rename_i hT
  obtain⟨d,hd,hk⟩:=(E.hT _ _ hT).und
  have hdd:=Z1w hk
  rw[hdd]at hd
  split at h
  ·simp only[Option.some.injEq]at h
   subst h
   have:=Q1u (Q0k hx)
   subst this
   exact⟨_,by simp[Builtin.len_,run_underlying hd,goInt];rfl,.pv (.int _ _)⟩
  cases h
 ·rename_i hT
  obtain⟨d,hd,hk⟩:=(E.hT _ _ hT).und
  have hdd:=Q3g hk
  rw[hdd]at hd
  have run:∀A n c,(Builtin.len_ #[ty] t #[.slice A n c]).run E.P w=.ok (.int .i64 n) w:=fun A n c=>by
   simp[Builtin.len_,run_underlying hd,goInt]
  split at h
  ·simp only[Option.some.injEq]at h
   subst h
   cases Q0k hx with
   | sliceNil=>exact⟨_,run _ _ _,.pv (.int _ _)⟩
   | sliceAny A cap hm=>exact⟨_,run _ _ _,.pv (.int _ _)⟩
   | slice b o len cap sz xs vs hl hc hm hsz h1 hcell hrep=>exact⟨_,run _ _ _,by rw[hl];exact .pv (.int _ _)⟩
  ·simp only[Option.some.injEq]at h
   subst h
   cases hx with
   | vec A l n cap e sz len hrow hn hA hcur=>exact⟨_,run _ _ _,.pv (.int _ _)⟩
  cases h
 ·rename_i hT
  obtain⟨d,hd,hk⟩:=(E.hT _ _ hT).und
  have hdd:=K1l hk
  rw[hdd]at hd
  split at h
  ·rename_i l
   split at h
   ·rename_i es hH
    simp only[Option.some.injEq]at h
    subst h
    obtain⟨g,hgl,b,ents,clock,hv,_,hb,hsz,hrel,_⟩:=hI.gh hH
    cases hx with
    | mref b' l hg=>
      have hbb:b'=b:=by
       simp only[gv,hgl,Option.map_some,Option.some.injEq]at hg
       rw[hv]at hg
       injection hg with hg
       injection hg with hg
       exact hg.symm
      subst hbb
      have hget:(getObj b').run E.P w=.ok (.map ents clock) w:=by simp[getObj,Sem.run,hb]
      refine⟨.int .i64 ents.size,by simp[Builtin.len_,run_underlying hd,hget,goInt],?_⟩
      rw[hsz]
      exact .pv (.int _ _)
   cases h
  cases h
 cases h
theorem J1z{src dst:TypeId}{v:Value}{x r:AV}(hx:ARel γ H Φ w v x)(h:J6n E.T src dst x=some r):
 ∃u,(convert src dst v).run E.P w=.ok u w∧ARel γ H Φ w u r:=by
 unfold J6n at h
 split at h
 ·rename_i hs hd
  obtain⟨d1,hd1,hk1⟩:=(E.hT _ _ hs).und
  obtain⟨d2,hd2,hk2⟩:=(E.hT _ _ hd).und
  rw[J3o hk1]at hd1
  rw[J3o hk2]at hd2
  simp only[Option.some.injEq]at h
  subst h
  have:=Q2j (Q0k hx)
  subst this
  exact⟨_,by simp[convert,run_underlying hd1,run_underlying hd2,Conv.intToInt],.pv (.int _ _)⟩
 ·rename_i hs hd
  obtain⟨d1,hd1,hk1⟩:=(E.hT _ _ hs).und
  obtain⟨d2,hd2,hk2⟩:=(E.hT _ _ hd).und
  rw[Z1w hk1]at hd1
  rw[Z1w hk2]at hd2
  simp only[Option.some.injEq]at h
  subst h
  have:=Q1u (Q0k hx)
  subst this
  exact⟨_,by simp[convert,run_underlying hd1,run_underlying hd2],.pv (.str _)⟩
 cases h
theorem Q7s:∀ {xs:List PV} {s:List UInt8},Q7t xs=some s→s.length=xs.length∧∀ (k:Nat) c,s[k]?=some c→xs[k]?=some (.int .u8 (c.toNat:Int))
 | [],s,h=>by
   simp only[Q7t,Option.some.injEq]at h
   subst h
   exact⟨rfl,fun k c hc=>by simp at hc⟩
 | x::xs,s,h=>by
   unfold Q7t at h
   split at h
   ·rename_i e
    cases e
   ·rename_i n r e
    injection e with e1 e2
    subst e1 e2
    split at h
    ·rename_i hn
     obtain⟨s',hs',rfl⟩:=Option.map_eq_some_iff.1 h
     obtain⟨h1,h2⟩:=Q7s hs'
     refine⟨by simp[h1],fun k c hc=>?_⟩
     cases k with
     | zero=>
       simp only[List.getElem?_cons_zero,Option.some.injEq]at hc ⊢
       subst hc
       have:(UInt8.ofNat n.toNat).toNat=n.toNat % 256:=rfl
       rw[this,Nat.mod_eq_of_lt (by omega),Int.toNat_of_nonneg hn.1]
     | succ k=>
       rw[List.getElem?_cons_succ]at hc ⊢
       exact h2 k c hc
    cases h
   cases h
theorem Z9z(hI:OInv E γ H Φ w){src dst:TypeId}{v:Value}{l n:Nat}{r:AV}(hx:ARel γ H Φ w v (.vec l n))(h:J3x E.T H src dst l n=some r):
 ∃u,(convert src dst v).run E.P w=.ok u w∧ARel γ H Φ w u r:=by
 unfold J3x at h
 split at h
 ·rename_i e _ _ _ _ _ _ e' xs fz hs hd hH
  split at h
  ·rename_i hc
   obtain⟨hu8,hn⟩:=hc
   obtain⟨s,hb,rfl⟩:=Option.map_eq_some_iff.1 h
   obtain⟨hsl,hsg⟩:=Q7s hb
   obtain⟨d1,hd1,hk1⟩:=(E.hT _ _ hs).und
   obtain⟨d2,hd2,hk2⟩:=(E.hT _ _ hd).und
   rw[Q3g hk1]at hd1
   rw[Z1w hk2]at hd2
   have he:E.P.underlying e=some (.int .u8):=by
    unfold isU8 at hu8
    split at hu8
    ·rename_i hTe
     obtain⟨d3,hd3,hk3⟩:=(E.hT _ _ hTe).und
     rw[J3o hk3]at hd3
     exact hd3
    cases hu8
   obtain⟨g,hg,hO⟩:=hI.gh hH
   obtain⟨cells,hown,hcl,hrep,hsz,h1,_,_,_⟩:=hO
   have hfl:=Q0h hsz
   cases hx with
   | vec A _ _ cap e0 sz0 len0 hrow hn0 hA hcur=>
     have hre:=Q2a hH
     rw[hrow]at hre
     injection hre with hre
     injection hre with _ hre
     injection hre with _ hlen
     have hgv:=hcur (by omega)
     simp only[gv,hg,Option.map_some,Option.some.injEq]at hgv
     rcases hown.2 with⟨hnil,hz⟩|⟨b,cap',cur,hv',_⟩
     ·have hs0:s=[]:=List.eq_nil_of_length_eq_zero (by omega)
      rw[hgv]at hnil
      injection hnil with e1 e2 e3
      subst e1 e2 e3
      refine⟨.string ⟨#[]⟩,?_,by rw[hs0];exact .pv (.str [])⟩
      rw[run_convert_bytes_string w src dst e none 0 0 hd1 he hd2]
      simp[Conv.bytesToString]
      rfl
     rw[hgv]at hv'
     injection hv' with e1 e2 e3
     subst e1 e3
     refine⟨.string ⟨s.toArray⟩,?_,.pv (.str s)⟩
     rw[←hn,←hsl]
     refine run_convert_bytes_back w src dst e ⟨b,0,none⟩ cap s hd1 he hd2 fun j hj=>?_
     have hkc:j<cells.length:=by omega
     have hc:=hown.cells (g:=b) (by rw[hgv];rfl) j cells[j] (List.getElem?_eq_getElem hkc)
     rw[hc]
     have hxj:=hsg j s[j] (List.getElem?_eq_getElem hj)
     have hfa:=Q2c hsz j 0 _ hxj (by omega)
     rw[Nat.mul_one,Nat.add_zero]at hfa
     have hr:=hrep j cells[j] (.int .u8 (s[j].toNat:Int)) (List.getElem?_eq_getElem hkc) (by rw[hfa];rfl)
     rw[Q2j hr]
  cases h
 cases h
theorem Z4p:∀ {xs:List PV} {s:List UInt8},Q7t xs=some s→∀x∈xs,x.cells.length=1
 | [],s,h,x,hx=>by simp at hx
 | y::xs,s,h,x,hx=>by
   unfold Q7t at h
   split at h
   ·rename_i e
    cases e
   ·rename_i n r e
    injection e with e1 e2
    subst e1 e2
    split at h
    ·obtain⟨s',hs',rfl⟩:=Option.map_eq_some_iff.1 h
     rcases List.mem_cons.1 hx with rfl|hx
     ·rfl
     exact Z4p hs' x hx
    cases h
   cases h
theorem Z7v{src dst:TypeId}{v:Value}{xs:List PV}{r:AV}(hx:ARel γ H Φ w v (.full xs))(h:J2b E.T src dst xs=some r):
 ∃u,(convert src dst v).run E.P w=.ok u w∧ARel γ H Φ w u r:=by
 unfold J2b at h
 split at h
 ·rename_i e _ _ _ _ _ _ hs hd
  split at h
  ·rename_i hu8
   obtain⟨s,hb,rfl⟩:=Option.map_eq_some_iff.1 h
   obtain⟨hsl,hsg⟩:=Q7s hb
   obtain⟨d1,hd1,hk1⟩:=(E.hT _ _ hs).und
   obtain⟨d2,hd2,hk2⟩:=(E.hT _ _ hd).und
   rw[Q3g hk1]at hd1
   rw[Z1w hk2]at hd2
   have he:E.P.underlying e=some (.int .u8):=by
    unfold isU8 at hu8
    split at hu8
    ·rename_i hTe
     obtain⟨d3,hd3,hk3⟩:=(E.hT _ _ hTe).und
     rw[J3o hk3]at hd3
     exact hd3
    cases hu8
   have h11:=Z4p hb
   have hfl:=Q0h h11
   cases hx with
   | full A n _ hrep=>
     cases hrep with
     | sliceNil=>
       have hs0:s=[]:=List.eq_nil_of_length_eq_zero hsl
       refine⟨.string ⟨#[]⟩,?_,by rw[hs0];exact .pv (.str [])⟩
       rw[run_convert_bytes_string w src dst e none 0 0 hd1 he hd2]
       simp[Conv.bytesToString]
       rfl
     | sliceAny A hm=>
       have hs0:s=[]:=List.eq_nil_of_length_eq_zero hsl
       subst hs0
       exact⟨.string ⟨([]:List UInt8).toArray⟩,run_convert_bytes_back w src dst e A 0 [] hd1 he hd2 (fun j hj=>by simp at hj),.pv (.str [])⟩
     | slice b o len cap sz _ vs hl hc hm hsz h1 hcell hrep=>
       refine⟨.string ⟨s.toArray⟩,?_,.pv (.str s)⟩
       have hls:n=s.length:=by omega
       subst hls
       refine run_convert_bytes_back w src dst e ⟨b,o,none⟩ _ s hd1 he hd2 fun j hj=>?_
       have hxj:=hsg j s[j] (List.getElem?_eq_getElem hj)
       have hfa:=Q2c h11 j 0 _ hxj (by omega)
       rw[Nat.mul_one,Nat.add_zero]at hfa
       have hr:=hrep j (.int .u8 (s[j].toNat:Int)) (by rw[hfa];rfl)
       have hc:=(hcell j (by omega)).2
       rw[Q2j hr]at hc
       rw[Addr.add_lit];exact hc
  cases h
 cases h
theorem Z9y(hI:OInv E γ H Φ w){src dst:TypeId}{v:Value}{x r:AV}(hx:ARel γ H Φ w v x)(h:Z6g E.T H src dst x=some r):
 ∃u,(convert src dst v).run E.P w=.ok u w∧ARel γ H Φ w u r:=by
 cases x with
 | vec l n=>exact Z9z hI hx h
 | full xs=>exact Z7v hx h
 | _=>exact J1z hx h
theorem Q0r{s:Sem Value}{u:Value}{w':World}(h:s.run E.P w=.ok u w'):(do pure (Next.value (← s)):Sem Next).run E.P w=.ok (.value u) w':=by
 simp only[bind,Sem.run_bind',h,Result.andThen_ok]
 rfl
theorem X8m(hI:OInv E γ H Φ w){a:Act}{t:Nat→AV}(hs:Slots γ H Φ w a t){o:Oper}{r:AV}(h:qval E.T t H o.op=some r):
 ∃u,(execOp a.eval o).run E.P w=.ok (.value u) w∧ARel γ H Φ w u r:=by
 unfold qval at h
 unfold execOp
 split at h
 ·rename_i x ho
  simp only[Option.some.injEq]at h
  subst h
  exact⟨a.eval x,by simp only[ho];rfl,Q0q hs x⟩
 ·rename_i x ho
  simp only[Option.some.injEq]at h
  subst h
  exact⟨a.eval x,by simp only[ho];rfl,Q0q hs x⟩
 ·rename_i c x y ho
  split at h
  ·rename_i b hc
   simp only[Option.some.injEq]at h
   subst h
   have hcr:=Q0q hs c
   rw[hc]at hcr
   have hcv:=Q8e (Q0k hcr)
   refine⟨if b then a.eval x else a.eval y,by simp only[ho,hcv];rfl,?_⟩
   cases b
   ·exact Q0q hs y
   exact Q0q hs x
  cases h
 ·rename_i op ty x y yt ho
  obtain⟨u,hu,hr⟩:=J6p op ty x y (Q0q hs x) (Q0q hs y) h
  exact⟨u,by simp only[ho];exact Q0r hu,hr⟩
 ·rename_i op ty x ho
  obtain⟨u,hu,hr⟩:=J9a (E:=E) op (Q0q hs x) h
  exact⟨u,by simp only[ho];exact Q0r hu,hr⟩
 ·rename_i ty x ho
  obtain⟨u,hu,hr⟩:=Z6i hI (Q0q hs x) h
  exact⟨u,by simp only[ho];exact Q0r hu,hr⟩
 ·rename_i ty x f ho
  obtain⟨u,hu,hr⟩:=Z2r (Q0q hs x) h
  exact⟨u,by simp only[ho];exact Q0r hu,hr⟩
 ·rename_i ty x i ho
  obtain⟨u,hu,hr⟩:=Z2q (J9l (Q0q hs x)) (Q0q hs i) h
  exact⟨u,by simp only[ho];exact Q0r hu,hr⟩
 ·rename_i ty x i ho
  obtain⟨u,hu,hr⟩:=Z9w (Q0q hs x) (Q0q hs i) h
  exact⟨u,by simp only[ho];exact Q0r hu,hr⟩
 ·rename_i ty x lo hi ho
  have side:∀ (o:Option Operand) (b:AV) (c:Value),o.map (ev t)=some b→o.map a.eval=some c→ARel γ H Φ w c b:=by
   intro o b c h1 h2
   cases o with
   | none=>cases h1
   | some z=>
     simp only[Option.map_some,Option.some.injEq]at h1 h2
     rw[←h1,←h2]
     exact Q0q hs z
  obtain⟨u,hu,hr⟩:=Z9q hI (vlo:=lo.map a.eval) (vhi:=hi.map a.eval) (Q0q hs x) (side lo) (by cases lo<;>simp) (side hi) (by cases hi<;>simp) h
  exact⟨u,by simp only[ho];exact Q0r hu,hr⟩
 ·rename_i x i ho
  have hx:=Q0q hs x
  unfold Z2y at h
  split at h
  ·rename_i vs hv
   rw[hv]at hx
   generalize hax:a.eval x=y at hx
   cases hx with
   | tup ws vs hl hrel=>
     have hi:i<ws.length:=by
      have:=(List.getElem?_eq_some_iff.1 h).1
      omega
     refine⟨ws[i],?_,hrel i ws[i] r (List.getElem?_eq_getElem hi) h⟩
     simp only[ho,hax]
     refine Q0r ?_
     simp[Instr.extract,hi]
  cases h
 ·rename_i ty parts ho
  obtain⟨u,hu,hr⟩:=J0a hI (vparts:=parts.map fun(p:Nat×Operand)=>(p.1,a.eval p.2)) (by simp) (fun j p q hp hq=>by
   rw[List.getElem?_map]at hp
   rw[Array.getElem?_map]at hq
   obtain⟨z,hz,rfl⟩:=Option.map_eq_some_iff.1 hp
   rw[Array.getElem?_toList]at hz
   rw[hz]at hq
   simp only[Option.map_some,Option.some.injEq]at hq
   subst hq
   exact⟨rfl,Q0q hs z.2⟩) h
  exact⟨u,by simp only[ho];exact Q0r hu,hr⟩
 ·rename_i x ho
  have hx:=Q0q hs x
  refine⟨a.eval x,?_,?_⟩
  ·simp only[ho]
   generalize a.eval x=y at hx ⊢
   generalize ev t x=z at hx h
   unfold qnil at h
   cases hx<;>first|rfl|simp at h
  generalize ev t x=z at hx h
  unfold qnil at h
  split at h<;>first|(simp only[Option.some.injEq]at h;subst h;exact hx)|cases h
 ·rename_i src dst x ho
  obtain⟨u,hu,hr⟩:=Z9y hI (Q0q hs x) h
  exact⟨u,by simp only[ho];exact Q0r hu,hr⟩
 ·rename_i args ats ho
  split at h
  ·rename_i x ty hx hty
   have ha:args=#[x]:=by rw[←Array.toArray_toList (xs:=args),hx]
   have hat:ats=#[ty]:=by rw[←Array.toArray_toList (xs:=ats),hty]
   subst ha;subst hat
   obtain⟨u,hu,hr⟩:=J6m hI (t:=o.type) (J9l (Q0q hs x)) h
   refine⟨u,?_,hr⟩
   simp only[ho,resolve,bind,Sem.run_bind']
   simp only[pure,Sem.run_pure',Result.andThen_ok,invoke,builtin]
   exact Q0r (by simpa using hu)
  cases h
 ·rename_i f first caps ho
  split at h
  ·rename_i h0
   obtain⟨ls,hls,rfl⟩:=Option.map_eq_some_iff.1 h
   have hf:first=#[]:=Array.eq_empty_of_size_eq_zero h0
   subst hf
   have key:∀ (xs:List Operand) (ls:List Nat),Z0a (xs.map (ev t))=some ls→(xs.map a.eval).length=ls.length∧∀ (k:Nat) v l,(xs.map a.eval)[k]?=some v→ls[k]?=some l→∃b,v=.pointer (some ⟨b,0,none⟩)∧gv γ l=some v:=by
    intro xs
    induction xs with
    | nil=>
      intro ls h
      simp only[List.map_nil,Z0a,Option.some.injEq]at h
      subst h
      exact⟨rfl,fun k v l hv=>by simp at hv⟩
    | cons x xs ih=>
      intro ls h
      have hx:=Q0q hs x
      rw[List.map_cons]at h
      generalize ev t x=y at hx h
      unfold Z0a at h
      split at h
      ·rename_i heq
       cases heq
      ·rename_i l r heq
       injection heq with e1 e2
       subst e1 e2
       obtain⟨ls',hls',rfl⟩:=Option.map_eq_some_iff.1 h
       obtain⟨i1,i2⟩:=ih ls' hls'
       refine⟨by simp[i1],fun k v l' hv hl'=>?_⟩
       cases k with
       | zero=>
         simp only[List.map_cons,List.getElem?_cons_zero,Option.some.injEq]at hv hl'
         subst hv hl'
         generalize a.eval x=u at hx
         cases hx with
         | ref b l off hg=>exact⟨b,rfl,hg⟩
       | succ k=>
         rw[List.map_cons,List.getElem?_cons_succ]at hv
         rw[List.getElem?_cons_succ]at hl'
         exact i2 k v l' hv hl'
      cases h
   obtain⟨k1,k2⟩:=key caps.toList ls hls
   refine⟨.func (.func f) #[] (caps.map a.eval),by simp only[ho];exact Q0r (by simp[Instr.makeFunc]),?_⟩
   have:caps.map a.eval=⟨caps.toList.map a.eval⟩:=by rw[←Array.toList_map]
   rw[this]
   exact .fn f _ ls k1 k2
  cases h
 cases h
end
end Go.Abs
