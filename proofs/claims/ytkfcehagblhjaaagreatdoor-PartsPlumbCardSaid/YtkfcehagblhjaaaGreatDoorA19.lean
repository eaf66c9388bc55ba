import Derived.Test.YtkfcehagblhjaaaGreatDoorA17
import Derived.Laws.StructEq
set_option linter.unusedVariables false
set_option linter.unusedSimpArgs false
set_option linter.defProp false
namespace Go.Abs
open Go.RowKit
section
variable {E:Env}{O:Orc}{γ:List Gh}{H H':List AObj}{Φ:Nat→Nat→Prop}{w:World}{a:Act}{σ:St}{o:Oper}{r:AV}
theorem wp_value{K:Act→World→Prop}{Q:Exit→Act→World→Prop}{u:Value}{w':World}(h:(execOp a.eval o).run E.P w=.ok (.value u) w')(hK:K (a.put o.dst u) w'):o.wp E.P a w K Q:=by
 unfold Oper.wp
 rw[h]
 exact hK
theorem wp_skip1{K:Act→World→Prop}{Q:Exit→Act→World→Prop}{w':World}(h:(execOp a.eval o).run E.P w=.ok .skip w')(hK:K (a.put o.dst undef) w'):o.wp E.P a w K Q:=by
 unfold Oper.wp
 rw[h]
 exact hK
theorem run_uskip{s:Sem Unit}{w':World}(h:s.run E.P w=.ok () w'):(do s;pure .skip:Sem Next).run E.P w=.ok .skip w':=by
 simp only[bind,Sem.run_bind',h,Result.andThen_ok]
 rfl
theorem run_call{f:FuncId}{args:Array Operand}{ats:Array TypeId}(ho:o.op=.call ⟨.value (.func f),args,ats⟩){fn:Func}(hf:E.P.funcs[f]?=some fn)(hb:fn.body.isSome=true)(hn:(fn.name=="runtime.NumGoroutine")=false):
 (execOp a.eval o).run E.P w=.ok (.enter f (args.map a.eval)) w:=by
 have hb':fn.body≠none:=fun h=>by simp[h]at hb
 have hn':fn.name≠"runtime.NumGoroutine":=by simpa using hn
 unfold execOp
 simp only[ho]
 simp[resolve,Act.eval,Deferred.ofValue,invoke,callFunc,hf,hn',hb']
theorem parts_rel{t:Nat→AV}(hs:Slots γ H Φ w a t)(parts:Array (Nat×Operand)):∀ (j:Nat) (p:Nat×AV) (q:Nat×Value),(parts.toList.map fun p=>(p.1,ev t p.2))[j]?=some p→(parts.map fun(p:Nat×Operand)=>(p.1,a.eval p.2))[j]?=some q→q.1=p.1∧ARel γ H Φ w q.2 p.2:=by
 intro j p q hp hq
 rw[List.getElem?_map]at hp
 rw[Array.getElem?_map]at hq
 obtain⟨z,hz,rfl⟩:=Option.map_eq_some_iff.1 hp
 rw[Array.getElem?_toList]at hz
 rw[hz]at hq
 simp only[Option.map_some,Option.some.injEq]at hq
 subst hq
 exact⟨rfl,ev_rel hs z.2⟩
theorem args_rel{t:Nat→AV}(hs:Slots γ H Φ w a t)(args:Array Operand):∀ (i:Nat) v b,(args.toList.map a.eval)[i]?=some v→(args.toList.map (ev t))[i]?=some b→ARel γ H Φ w v b:=by
 intro i v b hv hb
 rw[List.getElem?_map]at hv hb
 obtain⟨z,hz,rfl⟩:=Option.map_eq_some_iff.1 hv
 rw[hz]at hb
 simp only[Option.map_some,Option.some.injEq]at hb
 subst hb
 exact ev_rel hs z
theorem ret_map{rs:List AV}{f:AV→AV}{vs:List Value}{γ':List Gh}{Φ':Nat→Nat→Prop}{w':World}(hl:vs.length=rs.length)(h:∀ (i:Nat) v b,vs[i]?=some v→rs[i]?=some b→ARel γ' H' Φ' w' v (f b)):ARel γ' H' Φ' w' (retV vs) (retAV (rs.map f)):=
 ret_rel (by simpa using hl) (fun i v b hv hb=>by
  rw[List.getElem?_map]at hb
  obtain⟨c,hc,rfl⟩:=Option.map_eq_some_iff.1 hb
  exact h i v c hv hc)
theorem ecall_sound(hS:Sound E O)(hI:OInv E γ H Φ w){f:FuncId}{args:List AV}{cargs:List Value}(hl:cargs.length=args.length)(hr:∀ (i:Nat) v b,cargs[i]?=some v→args[i]?=some b→ARel γ H Φ w v b)
 (h:ecall O H f args=some (r,H')):(∃fn,E.P.funcs[f]?=some fn∧fn.body.isSome=true∧(fn.name=="runtime.NumGoroutine")=false)∧
   Calls E.P f ⟨cargs⟩ w fun e w'=>∃u γ' Φ',e=.returned u∧Ok E γ H Φ w γ' H' Φ' w'∧ARel γ' H' Φ' w' u r:=by
 unfold ecall at h
 simp only at h
 generalize hsel:dedup (locsOf H args++innerLocs H (locsOf H args))=sel at h
 have hnd:sel.Nodup:=by rw[←hsel];exact dedup_nodup _
 split at h
 ·rename_i Hs az hHs has
  split at h
  ·rename_i rs Hr hC
   split at h
   ·rename_i hle
    simp only[Option.some.injEq,Prod.mk.injEq]at h
    obtain⟨rfl,rfl⟩:=h
    obtain⟨hg,hfn⟩:=hS f az Hs rs Hr hC
    obtain⟨hal,harn⟩:=renArgs_spec has
    refine⟨hfn,(hg w Φ (selGh γ sel) cargs (hI.select hnd hHs) (by omega) (fun i v b hv hb=>?_)).mono ?_⟩
    ·have hi:i<args.length:=by
      have:=(List.getElem?_eq_some_iff.1 hv).1
      omega
     have har:=hr i v args[i] hv (List.getElem?_eq_getElem hi)
     rcases harn i args[i] b (List.getElem?_eq_getElem hi) hb with⟨p,hp,rfl⟩|hren
     ·exact .pv (toPV_rep hI har hp)
     exact har.select hI hHs hren
    rintro e w' ⟨vs,γ',Φ',rfl,hok,hvl,hvr⟩
    have hlen:=hI.len
    have hlen':=hok.inv.len
    obtain⟨hsl,hget⟩:=selObjs_get hHs
    have hlt:∀l∈sel,l<H.length:=by
     intro l hm
     obtain⟨i,hi,hil⟩:=List.getElem_of_mem hm
     obtain⟨l',o',h1,h2,_⟩:=hget i (Hs[i]'(by omega)) (List.getElem?_eq_getElem (by omega))
     rw[List.getElem?_eq_getElem hi,hil]at h1
     injection h1 with h1
     subst h1
     exact(List.getElem?_eq_some_iff.1 h2).1
    exact⟨_,_,Φ',rfl,hok.back hI hnd hHs hle,ret_map hvl (fun i v b hv hb=>(hvr i v b hv hb).back hnd hlt hlen hlen' (by omega))⟩
   cases h
  cases h
 cases h
theorem qcall_sound(hS:Sound E O)(hI:OInv E γ H Φ w){f:FuncId}{args:List AV}{cargs:List Value}(hl:cargs.length=args.length)(hr:∀ (i:Nat) v b,cargs[i]?=some v→args[i]?=some b→ARel γ H Φ w v b)
 (h:qcall O H f args=some r):(∃fn,E.P.funcs[f]?=some fn∧fn.body.isSome=true∧(fn.name=="runtime.NumGoroutine")=false)∧
   Calls E.P f ⟨cargs⟩ w fun e w'=>∃u γ' Φ',e=.returned u∧Ok E γ H Φ w γ' H Φ' w'∧ARel γ' H Φ' w' u r:=by
 unfold qcall at h
 split at h
 ·rename_i ps hps
  split at h
  ·rename_i rs hC
   split at h
   ·rename_i qs hqs
    simp only[Option.some.injEq]at h
    subst h
    obtain⟨hg,hfn⟩:=hS f _ _ _ _ hC
    obtain⟨hal,harn⟩:=argsPV_spec hps
    have hs0:selObjs H (idx []) []=some []:=rfl
    refine⟨hfn,(hg w Φ (selGh γ []) cargs (hI.select (by simp) hs0) (by simp;omega) (fun i v b hv hb=>?_)).mono ?_⟩
    ·have hi:i<args.length:=by
      have:=(List.getElem?_eq_some_iff.1 hv).1
      omega
     rw[List.getElem?_map]at hb
     obtain⟨p,hp,rfl⟩:=Option.map_eq_some_iff.1 hb
     exact .pv (toPV_rep hI (hr i v args[i] hv (List.getElem?_eq_getElem hi)) (harn i args[i] p (List.getElem?_eq_getElem hi) hp))
    rintro e w' ⟨vs,γ',Φ',rfl,hok,hvl,hvr⟩
    have hb:=hok.back hI (by simp) hs0 (by simp)
    have e2:backObjs H [] []=H:=by
     unfold backObjs
     simp only[List.drop_nil,List.map_nil,List.append_nil]
     refine List.ext_getElem? fun l=>?_
     rw[List.getElem?_map]
     by_cases hl:l<H.length
     ·rw[List.getElem?_range hl]
      simp[idx,List.getD_eq_getElem?_getD,hl]
     rw[List.getElem?_eq_none (show(List.range H.length).length≤l by simp;omega),List.getElem?_eq_none (show H.length≤l by omega)]
     rfl
    rw[e2]at hb
    have hqv:=allPV_spec hqs
    refine⟨_,_,Φ',rfl,hb,ret_rel hvl (fun i v b hv hb=>?_)⟩
    have hvb:=hvr i v b hv hb
    rw[hqv,List.getElem?_map]at hb
    obtain⟨p,_,rfl⟩:=Option.map_eq_some_iff.1 hb
    exact .pv (arel_pv hvb)
   cases h
  cases h
 cases h
theorem pv_equal{P:Program}{v u:Value}{k:EK}{p q:PV}{b:Bool}{t:TypeId}{d:TypeDesc}(hv:Rep Φ w v p)(hu:Rep Φ w u q)(h:pvEq k p q=some b)(ht:P.underlying t=some d)(hk:k.fits d)(n:Nat):
 (Op.equalIn (n+1) t v u).run P w=.ok b w:=by
 unfold pvEq at h
 split at h
 ·obtain⟨j,rfl⟩:=hk
  split at h
  ·rename_i hkk
   subst hkk
   injection h with h
   subst h
   have h1:=rep_int hv
   have h2:=rep_int hu
   subst h1 h2
   rw[run_equalIn_int w n t _ j _ _ ht]
   rfl
  cases h
 ·cases hk
  injection h with h
  subst h
  have h1:=rep_str hv
  have h2:=rep_str hu
  subst h1 h2
  rw[run_equalIn_string w n t _ _ ht]
  congr 1
  rw[Bool.eq_iff_iff,beq_iff_eq,decide_eq_true_eq,ByteArray.toList_eq,ByteArray.toList_eq]
 ·cases hk
  injection h with h
  subst h
  have h1:=rep_bool hv
  have h2:=rep_bool hu
  subst h1 h2
  exact run_equalIn_bool w n t _ _ ht
 cases h
theorem fits_part{P:Program}{t:TypeId}{k:EK}{d:TypeDesc}(ht:P.underlying t=some d)(hk:k.fits d){xs:List Value}{j:Nat}{v:Value}(hx:xs[j]?=some v):(part t ⟨xs⟩ j).run P w=.ok v w:=by
 have hj:j<xs.length:=(List.getElem?_eq_some_iff.1 hx).1
 have hv:xs[j]=v:=by rw[List.getElem?_eq_getElem hj]at hx;exact Option.some.inj hx
 unfold part
 cases k with
 | bool=>cases hk;simp[run_isAgg ht,isAggD,hj,hv]
 | str=>cases hk;simp[run_isAgg ht,isAggD,hj,hv]
 | int=>obtain⟨k,rfl⟩:=hk;simp[run_isAgg ht,isAggD,hj,hv]
theorem cellsEq_append:∀ {k1 k2:List EK} {cs ds:List PV} {r:Bool},cellsEq (k1++k2) cs ds=some r→∃r1 r2,cellsEq k1 (cs.take k1.length) (ds.take k1.length)=some r1∧cellsEq k2 (cs.drop k1.length) (ds.drop k1.length)=some r2∧r=(r1&&r2)
 | [],k2,cs,ds,r,h=>⟨true,r,rfl,h,by simp⟩
 | k::k1,k2,[],ds,r,h=>by simp[cellsEq]at h
 | k::k1,k2,c::cs,[],r,h=>by simp[cellsEq]at h
 | k::k1,k2,c::cs,d::ds,r,h=>by
   simp only[List.cons_append,cellsEq]at h
   split at h
   ·rename_i a b ha hb
    simp only[Option.some.injEq]at h
    obtain⟨r1,r2,h1,h2,h3⟩:=cellsEq_append hb
    refine⟨a&&r1,r2,?_,h2,by rw[←h,h3,Bool.and_assoc]⟩
    simp only[List.length_cons,List.take_succ_cons,cellsEq,ha,h1]
   cases h
theorem part_sub{P:Program}{t:TypeId}{sub:Array Field}{i:TypeInfo}(ht:P.underlying t=some (.struct sub))(hi:P.info? t=some i)(xs:List Value)(j:Nat):(part t ⟨xs⟩ j).run P w=.ok (.agg ⟨(xs.drop j).take i.size⟩) w:=by
 have he:(⟨xs⟩:Array Value).extract j (j+i.size)=⟨(xs.drop j).take i.size⟩:=by
  apply Array.ext'
  simp[List.take_drop]
 unfold part
 simp[run_isAgg ht,isAggD,run_sizeOf hi]
theorem eq_fields{P:Program}{n:Nat}{fs:List Field}{j:Nat}{ks:List EK}(hF:FitsF P n fs j ks):∀ {xs ys:List Value} {cs ds:List PV} (_hx:xs.length=cs.length) (_hy:ys.length=ds.length) (_hxr:∀ (k:Nat) v c,xs[k]?=some v→cs[k]?=some c→Rep Φ w v c) (_hyr:∀ (k:Nat) v c,ys[k]?=some v→ds[k]?=some c→Rep Φ w v c) (N:Nat) (_hN:n≤N) (r:Bool),cellsEq ks (cs.drop j) (ds.drop j)=some r→
 (Op.eqFields (N+1) ⟨xs⟩ ⟨ys⟩ fs).run P w=.ok r w:=by
 induction hF with
 | nil n j=>
   intro xs ys cs ds hx hy hxr hyr N hN r h
   generalize cs.drop j=a at h
   generalize ds.drop j=b at h
   cases a<;>cases b<;>simp only[cellsEq,Option.some.injEq,reduceCtorEq]at h
   subst h
   rfl
 | @one n f fs j k ks d hn ho hd hk hr ih=>
   intro xs ys cs ds hx hy hxr hyr N hN r h
   have hj:j<cs.length:=by
    rcases Nat.lt_or_ge j cs.length with h1|h1
    ·exact h1
    rw[List.drop_eq_nil_of_le h1]at h
    simp[cellsEq]at h
   have hjd:j<ds.length:=by
    rcases Nat.lt_or_ge j ds.length with h1|h1
    ·exact h1
    rw[List.drop_eq_nil_of_le h1]at h
    simp[cellsEq]at h
   rw[List.drop_eq_getElem_cons hj,List.drop_eq_getElem_cons hjd]at h
   simp only[cellsEq]at h
   split at h
   ·rename_i a b ha hb
    simp only[Option.some.injEq]at h
    have hxv:=hxr j xs[j] cs[j] (List.getElem?_eq_getElem (by omega)) (List.getElem?_eq_getElem hj)
    have hyv:=hyr j ys[j] ds[j] (List.getElem?_eq_getElem (by omega)) (List.getElem?_eq_getElem hjd)
    have ih:=ih hx hy hxr hyr N (by omega) b hb
    have px:(part f.type ⟨xs⟩ f.offset).run P w=.ok xs[j] w:=by rw[ho];exact fits_part hd hk (List.getElem?_eq_getElem (by omega))
    have py:(part f.type ⟨ys⟩ f.offset).run P w=.ok ys[j] w:=by rw[ho];exact fits_part hd hk (List.getElem?_eq_getElem (by omega))
    have pe:=pv_equal (P:=P) hxv hyv ha hd hk N
    simp only[Op.eqFields,if_pos hn,bind,Sem.run_bind',px,py,pe,Result.andThen_ok]
    subst h
    cases a with
    | true=>simpa using ih
    | false=>rfl
   cases h
 | @sub n f fs j ks1 ks2 sub i hn ho hd hh hi hs h1 hr ih1 ih2=>
   intro xs ys cs ds hx hy hxr hyr N hN r h
   subst ho
   obtain⟨r1,r2,e1,e2,e3⟩:=cellsEq_append h
   rw[List.drop_drop]at e2
   rw[List.drop_drop]at e2
   have px:=part_sub (w:=w) hd hi xs f.offset
   have py:=part_sub (w:=w) hd hi ys f.offset
   have sub_rel:∀ {zs:List Value} {bs:List PV},(∀ (k:Nat) v c,zs[k]?=some v→bs[k]?=some c→Rep Φ w v c)→∀ (k:Nat) v c,((zs.drop f.offset).take i.size)[k]?=some v→((bs.drop f.offset).take i.size)[k]?=some c→Rep Φ w v c:=by
    intro zs bs hz k v c hv hc
    rw[List.getElem?_take]at hv hc
    split at hv
    ·rename_i hk
     rw[if_pos hk]at hc
     rw[List.getElem?_drop]at hv hc
     exact hz _ v c hv hc
    cases hv
   obtain⟨M,rfl⟩:∃M,N=M+1:=⟨N-1,by omega⟩
   have s1:=ih1 (xs:=(xs.drop f.offset).take i.size) (ys:=(ys.drop f.offset).take i.size) (cs:=(cs.drop f.offset).take i.size) (ds:=(ds.drop f.offset).take i.size) (by simp[hx]) (by simp[hy]) (sub_rel hxr) (sub_rel hyr) M (by omega) r1 (by rw[List.drop_zero,List.drop_zero,hs];exact e1)
   have s2:=ih2 hx hy hxr hyr (M+1) (by omega) r2 e2
   have hfo:P.fieldsOf f.type=sub:=by unfold Program.fieldsOf;rw[hd]
   have pe:(Op.equalIn (M+1+1) f.type (.agg ⟨(xs.drop f.offset).take i.size⟩) (.agg ⟨(ys.drop f.offset).take i.size⟩)).run P w=.ok r1 w:=by
    rw[run_equalIn_struct w (M+1) f.type _ _ (by rw[hfo];exact hd) hh,hfo]
    exact s1
   simp only[Op.eqFields,if_pos hn,bind,Sem.run_bind',px,py,pe,Result.andThen_ok]
   subst e3
   cases r1 with
   | true=>simpa using s2
   | false=>rfl
theorem eq_array{P:Program}{t e:TypeId}{n:Nat}{d:TypeDesc}{k:EK}(ht:P.underlying t=some (.array n e))(he:P.underlying e=some d)(hk:k.fits d){ei:TypeInfo}(hi:P.info? e=some ei)(hs:ei.size=1)
 {xs ys:List Value} {cs ds:List PV} (hx:xs.length=cs.length) (hy:ys.length=ds.length) (hxr:∀ (k:Nat) v c,xs[k]?=some v→cs[k]?=some c→Rep Φ w v c) (hyr:∀ (k:Nat) v c,ys[k]?=some v→ds[k]?=some c→Rep Φ w v c)
 {r:Bool} (h:cellsEq (List.replicate n k) cs ds=some r) (N:Nat):(Op.equalIn (N+1+1) t (.agg ⟨xs⟩) (.agg ⟨ys⟩)).run P w=.ok r w:=by
 rw[Op.equalIn]
 simp only[bind,Sem.run_bind',run_underlying ht,Result.andThen_ok,run_sizeOf hi,hs,Nat.mul_one,Std.Legacy.Range.forIn_eq_forIn_range',Std.Legacy.Range.size,Nat.sub_zero,Nat.add_sub_cancel,Nat.div_one]
 have key:∀ (m s:Nat) (r:Bool),cellsEq (List.replicate m k) (cs.drop s) (ds.drop s)=some r→(Sem.run P (forIn (List.range' s m) ((none:Option Bool),()) fun i __s=>
  (part e ⟨xs⟩ i).bind fun a=>(part e ⟨ys⟩ i).bind fun b=>(Op.equalIn (N+1) e a b).bind fun c=>
    if (!c)=true then(pure (ForInStep.done (some false,())):Sem _)else pure (ForInStep.yield (none,()))) w)=.ok (if r then(none,())else(some false,())) w:=by
  intro m
  induction m with
  | zero=>
    intro s r h
    generalize cs.drop s=a at h
    generalize ds.drop s=b at h
    cases a<;>cases b<;>simp only[List.replicate_zero,cellsEq,Option.some.injEq,reduceCtorEq]at h
    subst h
    rfl
  | succ m ih=>
    intro s r h
    have hj:s<cs.length:=by
     rcases Nat.lt_or_ge s cs.length with h1|h1
     ·exact h1
     rw[List.drop_eq_nil_of_le h1]at h
     simp[List.replicate_succ,cellsEq]at h
    have hjd:s<ds.length:=by
     rcases Nat.lt_or_ge s ds.length with h1|h1
     ·exact h1
     rw[List.drop_eq_nil_of_le h1]at h
     simp[List.replicate_succ,cellsEq]at h
    rw[List.drop_eq_getElem_cons hj,List.drop_eq_getElem_cons hjd,List.replicate_succ]at h
    simp only[cellsEq]at h
    split at h
    ·rename_i a b ha hb
     simp only[Option.some.injEq]at h
     have px:(part e ⟨xs⟩ s).run P w=.ok xs[s] w:=fits_part he hk (List.getElem?_eq_getElem (by omega))
     have py:(part e ⟨ys⟩ s).run P w=.ok ys[s] w:=fits_part he hk (List.getElem?_eq_getElem (by omega))
     have pe:=pv_equal (P:=P) (hxr s xs[s] cs[s] (List.getElem?_eq_getElem (by omega)) (List.getElem?_eq_getElem hj)) (hyr s ys[s] ds[s] (List.getElem?_eq_getElem (by omega)) (List.getElem?_eq_getElem hjd)) ha he hk N
     rw[List.range'_succ,List.forIn_cons]
     simp only[bind,Sem.run_bind',px,py,pe,Result.andThen_ok]
     subst h
     cases a with
     | true=>
       simp only[Bool.not_true,Bool.false_eq_true,if_false,Sem.run_pure,Result.andThen_ok,Bool.true_and]
       exact ih (s+1) b hb
     | false=>rfl
    cases h
 rw[key n 0 r (by simpa using h),Result.andThen_ok]
 cases r<;>rfl
theorem qeq_sound{t:TypeId}{ks:List EK}(hE:E.eqT t=some ks){op:BinOp}{x y:Operand}{v u:Value}{a b r:AV}(hv:ARel γ H Φ w v a)(hu:ARel γ H Φ w u b)(h:qeq ks op a b=some r):
 ∃z,(do eqGuard op t x y v u;binOp op t v u:Sem Value).run E.P w=.ok z w∧ARel γ H Φ w z r:=by
 rcases(E.hEq t ks hE).ex with⟨n,e,k,d,h1,h2,h3,rfl,h4,ei,h5,h6⟩|⟨fields,h1,h2,h3,n,hn9,h4⟩
 ·unfold qeq at h
  split at h
  ·rename_i cs ds
   have hv:=arel_pv hv
   have hu:=arel_pv hu
   cases hv with
   | agg vs _ hl1 _ hr1=>
     cases hu with
     | agg us _ hl2 _ hr2=>
       have hf:∀r,cellsEq (List.replicate n k) cs ds=some r→(Op.equalIn 10000 t (.agg ⟨vs⟩) (.agg ⟨us⟩)).run E.P w=.ok r w:=fun r hr=>eq_array h1 h2 h3 h5 h6 hl1 hl2 hr1 hr2 hr 9998
       have hg:=run_eqGuard_agg (P:=E.P) w op t x y ⟨vs⟩ ⟨us⟩ h4
       split at h
       ·obtain⟨r',hr',rfl⟩:=Option.map_eq_some_iff.1 h
        refine⟨.bool r',?_,.pv (.bool r')⟩
        simp only[bind,Sem.run_bind',hg,Result.andThen_ok,run_eql_struct,hf r' hr']
       ·obtain⟨r',hr',rfl⟩:=Option.map_eq_some_iff.1 h
        refine⟨.bool !r',?_,.pv (.bool !r')⟩
        simp only[bind,Sem.run_bind',hg,Result.andThen_ok,run_neq_struct,hf r' hr']
       cases h
  cases h
 unfold qeq at h
 split at h
 ·rename_i cs ds
  have hv:=arel_pv hv
  have hu:=arel_pv hu
  cases hv with
  | agg vs _ hl1 _ hr1=>
    cases hu with
    | agg us _ hl2 _ hr2=>
      have hfo:E.P.fieldsOf t=fields:=by unfold Program.fieldsOf;rw[h1]
      have hf:∀r,cellsEq ks cs ds=some r→(Op.equalIn 10000 t (.agg ⟨vs⟩) (.agg ⟨us⟩)).run E.P w=.ok r w:=fun r hr=>by
       rw[run_equalIn_agg w 9999 t ⟨vs⟩ ⟨us⟩ (by rw[hfo];exact h1) h2,hfo]
       exact eq_fields h4 hl1 hl2 hr1 hr2 9998 (by omega) r (by simpa using hr)
      have hg:=run_eqGuard_agg (P:=E.P) w op t x y ⟨vs⟩ ⟨us⟩ h3
      split at h
      ·obtain⟨r',hr',rfl⟩:=Option.map_eq_some_iff.1 h
       refine⟨.bool r',?_,.pv (.bool r')⟩
       simp only[bind,Sem.run_bind',hg,Result.andThen_ok,run_eql_struct,hf r' hr']
      ·obtain⟨r',hr',rfl⟩:=Option.map_eq_some_iff.1 h
       refine⟨.bool !r',?_,.pv (.bool !r')⟩
       simp only[bind,Sem.run_bind',hg,Result.andThen_ok,run_neq_struct,hf r' hr']
      cases h
 cases h
theorem run_call2{i:Nat}{f:FuncId}{cs:List Value}{args:Array Operand}{ats:Array TypeId}(ho:o.op=.call ⟨.value (.tmp i),args,ats⟩)(hi:a.tmps.getD i undef=.func (.func f) #[] ⟨cs⟩){fn:Func}(hf:E.P.funcs[f]?=some fn)(hb:fn.body.isSome=true)(hn:(fn.name=="runtime.NumGoroutine")=false):
 (execOp a.eval o).run E.P w=.ok (.enter f (args.map a.eval++⟨cs⟩)) w:=by
 have hb':fn.body≠none:=fun h=>by simp[h]at hb
 have hn':fn.name≠"runtime.NumGoroutine":=by simpa using hn
 unfold execOp
 simp only[ho]
 have he:a.eval (.tmp i)=.func (.func f) #[] ⟨cs⟩:=hi
 simp[resolve,he,Deferred.ofValue,invoke,callFunc,hf,hn',hb']
theorem aop_sound(hS:Sound E O)(hI:OInv E γ σ.h Φ w)(hs:Slots γ σ.h Φ w a σ.t)(h:aop E O σ o=some (r,H')){K:Act→World→Prop}{Q:Exit→Act→World→Prop}
 (hK:∀u w' γ' Φ',Ok E γ σ.h Φ w γ' H' Φ' w'→ARel γ' H' Φ' w' u r→K (a.put o.dst u) w'):o.wp E.P a w K Q:=by
 have one:∀ {s:Sem Value},(∀W:World,(do pure (Next.value (← s)):Sem Next).run E.P W=(execOp a.eval o).run E.P W)→(∃u w',s.run E.P w=.ok u w'∧Steps1 E γ σ.h Φ w r H' u w')→o.wp E.P a w K Q:=by
  rintro s he ⟨u,w',hu,γ',Φ',hok,hr⟩
  exact wp_value (by rw[←he];exact run_vval hu) (hK u w' γ' Φ' hok hr)
 have none1:∀ {s:Sem Unit} {H1:List AObj},some (AV.any,H1)=some (r,H')→(∀W:World,(do s;pure .skip:Sem Next).run E.P W=(execOp a.eval o).run E.P W)→(∃w',s.run E.P w=.ok () w'∧∃γ' Φ',Ok E γ σ.h Φ w γ' H1 Φ' w')→o.wp E.P a w K Q:=by
  rintro s H1 he1 he ⟨w',hu,γ',Φ',hok⟩
  simp only[Option.some.injEq,Prod.mk.injEq]at he1
  obtain⟨rfl,rfl⟩:=he1
  exact wp_skip1 (by rw[←he];exact run_uskip hu) (hK undef w' γ' Φ' hok (.any _))
 have quiet:(qval E.T σ.t σ.h o.op).map (fun r=>(r,σ.h))=some (r,H')→o.wp E.P a w K Q:=by
  intro h
  obtain⟨r',hr',he⟩:=Option.map_eq_some_iff.1 h
  simp only[Prod.mk.injEq]at he
  obtain⟨rfl,rfl⟩:=he
  obtain⟨u,hu,hrel⟩:=q_sound hI hs hr'
  exact wp_value hu (hK u w γ Φ (.refl hI) hrel)
 unfold aop at h
 split at h
 ·rename_i ty ho
  exact one (fun W=>by unfold execOp;simp only[ho]<;>rfl) (ealloc_sound hI h)
 ·rename_i ty x ho
  exact one (fun W=>by unfold execOp;simp only[ho]<;>rfl) (ebox_sound hI (ev_rel hs x) h)
 ·rename_i ty len parts ho
  split at h
  ·exact one (s:=Instr.buildSlice ty len (parts.map fun(p:Nat×Operand)=>(p.1,a.eval p.2))) (fun W=>by unfold execOp;simp only[ho]<;>rfl) (ebuildOwn_sound hI (by simp) (parts_rel hs parts) h)
  exact one (s:=Instr.buildSlice ty len (parts.map fun(p:Nat×Operand)=>(p.1,a.eval p.2))) (fun W=>by unfold execOp;simp only[ho]<;>rfl) (ebuildSlice_sound hI (by simp) (parts_rel hs parts) h)
 ·rename_i ty p x ho
  obtain⟨H1,hH1,he⟩:=Option.map_eq_some_iff.1 h
  exact none1 (congrArg some he) (fun W=>by unfold execOp;simp only[ho]<;>rfl) (estore_sound hI (ev_rel hs p) (ev_rel hs x) hH1)
 ·rename_i ty ho
  exact one (s:=Instr.makeMap ty none) (fun W=>by unfold execOp;simp only[ho]<;>rfl) (emakeMap_sound hI ty h)
 ·rename_i ty x y ho
  exact one (fun W=>by unfold execOp;simp only[ho]<;>rfl) (emakeSlice_sound hI (ev_rel hs x) (ev_rel hs y) h)
 ·rename_i ty m k v ho
  obtain⟨H1,hH1,he⟩:=Option.map_eq_some_iff.1 h
  exact none1 (congrArg some he) (fun W=>by unfold execOp;simp only[ho]<;>rfl) (emapUpdate_sound hI (ev_rel hs m) (ev_rel hs k) (ev_rel hs v) hH1)
 ·rename_i ty m k v ho
  obtain⟨H1,hH1,he⟩:=Option.map_eq_some_iff.1 h
  exact none1 (congrArg some he) (fun W=>by unfold execOp;simp only[ho]<;>rfl) (emapUpdate_sound hI (ev_rel hs m) (ev_rel hs k) (ev_rel hs v) hH1)
 ·rename_i args ats ho
  split at h
  ·rename_i x y t1 t2 hxy ht
   split at h
   ·rename_i htt
    subst htt
    have ha:args=#[x,y]:=by rw[←Array.toArray_toList (xs:=args),hxy]
    have hat:ats=#[t1,t1]:=by rw[←Array.toArray_toList (xs:=ats),ht]
    subst ha;subst hat
    obtain⟨u,w',hu,γ',Φ',hok,hr⟩:=eappend_sound (t:=o.type) hI (ev_rel hs x) (ev_rel hs y) h
    refine wp_value ?_ (hK u w' γ' Φ' hok hr)
    unfold execOp
    simp only[ho,resolve,bind,Sem.run_bind']
    simp only[pure,Sem.run_pure',Result.andThen_ok,invoke,builtin]
    exact run_vval (by simpa using hu)
   have ha:args=#[x,y]:=by rw[←Array.toArray_toList (xs:=args),hxy]
   have hat:ats=#[t1,t2]:=by rw[←Array.toArray_toList (xs:=ats),ht]
   subst ha;subst hat
   obtain⟨u,w',hu,γ',Φ',hok,hr⟩:=eappendS_sound (t:=o.type) hI (ev_rel hs x) (ev_rel hs y) h
   refine wp_value ?_ (hK u w' γ' Φ' hok hr)
   unfold execOp
   simp only[ho,resolve,bind,Sem.run_bind']
   simp only[pure,Sem.run_pure',Result.andThen_ok,invoke,builtin]
   exact run_vval (by simpa using hu)
  cases h
 ·rename_i args ats ho
  split at h
  ·rename_i x hxy
   obtain⟨r',hr',he⟩:=Option.map_eq_some_iff.1 h
   simp only[Prod.mk.injEq]at he
   obtain⟨rfl,rfl⟩:=he
   have ha:args=#[x]:=by rw[←Array.toArray_toList (xs:=args),hxy]
   subst ha
   obtain⟨u,hu,hrel⟩:=qsdata_sound (E:=E) (ts:=ats) (t:=o.type) hI (ev_rel hs x) hr'
   refine wp_value ?_ (hK u w γ Φ (.refl hI) hrel)
   unfold execOp
   simp only[ho,resolve,bind,Sem.run_bind']
   simp only[pure,Sem.run_pure',Result.andThen_ok,invoke,builtin]
   exact run_vval (by simpa using hu)
  cases h
 ·rename_i args ats ho
  split at h
  ·rename_i x y pt it hxy ht
   obtain⟨r',hr',he⟩:=Option.map_eq_some_iff.1 h
   simp only[Prod.mk.injEq]at he
   obtain⟨rfl,rfl⟩:=he
   have ha:args=#[x,y]:=by rw[←Array.toArray_toList (xs:=args),hxy]
   have hat:ats=#[pt,it]:=by rw[←Array.toArray_toList (xs:=ats),ht]
   subst ha;subst hat
   obtain⟨u,w',hu,γ',Φ',hok,hr⟩:=qustr_sound (it:=it) (t:=o.type) hI (ev_rel hs x) (ev_rel hs y) hr'
   refine wp_value ?_ (hK u w' γ' Φ' hok hr)
   unfold execOp
   simp only[ho,resolve,bind,Sem.run_bind']
   simp only[pure,Sem.run_pure',Result.andThen_ok,invoke,builtin]
   exact run_vval (by simpa using hu)
  cases h
 ·rename_i f args ats ho
  have hcl:(args.toList.map a.eval).length=(args.toList.map (ev σ.t)).length:=by simp
  have harr:(⟨args.toList.map a.eval⟩:Array Value)=args.map a.eval:=by
   apply Array.ext'
   simp
  split at h
  ·obtain⟨r',hr',he⟩:=Option.map_eq_some_iff.1 h
   simp only[Prod.mk.injEq]at he
   obtain⟨rfl,rfl⟩:=he
   obtain⟨⟨fn,hf,hb,hn⟩,hcalls⟩:=qcall_sound hS hI hcl (args_rel hs args) hr'
   unfold Oper.wp
   rw[run_call ho hf hb hn]
   rw[harr]at hcalls
   refine hcalls.mono ?_
   rintro e w' ⟨u,γ',Φ',rfl,hok,hr⟩
   exact hK u w' γ' Φ' hok hr
  obtain⟨⟨fn,hf,hb,hn⟩,hcalls⟩:=ecall_sound hS hI hcl (args_rel hs args) h
  unfold Oper.wp
  rw[run_call ho hf hb hn]
  rw[harr]at hcalls
  refine hcalls.mono ?_
  rintro e w' ⟨u,γ',Φ',rfl,hok,hr⟩
  exact hK u w' γ' Φ' hok hr
 ·rename_i i args ats ho
  split at h
  ·rename_i f caps hfn
   have hrel:=hs i
   rw[hfn]at hrel
   generalize hvi:a.tmps.getD i undef=vi at hrel
   cases hrel with
   | fn _ cs _ hcl hcc=>
     have hcl2:(args.toList.map a.eval++cs).length=(args.toList.map (ev σ.t)++caps.map fun l=>AV.ref l 0).length:=by simp[hcl]
     have harr:(⟨args.toList.map a.eval++cs⟩:Array Value)=args.map a.eval++⟨cs⟩:=by
      apply Array.ext'
      simp
     have hrel2:∀ (j:Nat) v b,(args.toList.map a.eval++cs)[j]?=some v→(args.toList.map (ev σ.t)++caps.map fun l=>AV.ref l 0)[j]?=some b→ARel γ σ.h Φ w v b:=by
      intro j v b hv hb
      by_cases hj:j<args.toList.length
      ·rw[List.getElem?_append_left (by simpa using hj)]at hv hb
       exact args_rel hs args j v b hv hb
      rw[List.getElem?_append_right (by simpa using hj)]at hv hb
      simp only[List.length_map]at hv hb
      rw[List.getElem?_map]at hb
      obtain⟨l,hl,rfl⟩:=Option.map_eq_some_iff.1 hb
      obtain⟨b',rfl,hg⟩:=hcc _ v l hv hl
      exact .ref b' l 0 hg
     split at h
     ·obtain⟨r',hr',he⟩:=Option.map_eq_some_iff.1 h
      simp only[Prod.mk.injEq]at he
      obtain⟨rfl,rfl⟩:=he
      obtain⟨⟨fn,hf,hb,hn⟩,hcalls⟩:=qcall_sound hS hI hcl2 hrel2 hr'
      unfold Oper.wp
      rw[run_call2 ho hvi hf hb hn]
      rw[harr]at hcalls
      refine hcalls.mono ?_
      rintro e w' ⟨u,γ',Φ',rfl,hok,hr⟩
      exact hK u w' γ' Φ' hok hr
     obtain⟨⟨fn,hf,hb,hn⟩,hcalls⟩:=ecall_sound hS hI hcl2 hrel2 h
     unfold Oper.wp
     rw[run_call2 ho hvi hf hb hn]
     rw[harr]at hcalls
     refine hcalls.mono ?_
     rintro e w' ⟨u,γ',Φ',rfl,hok,hr⟩
     exact hK u w' γ' Φ' hok hr
  cases h
 ·rename_i args ats ho
  obtain⟨r',hr',he⟩:=Option.map_eq_some_iff.1 h
  simp only[Prod.mk.injEq]at he
  obtain⟨rfl,rfl⟩:=he
  obtain⟨u,hu,hrel⟩:=qmm_sound (E:=E) false (vs:=args.toList.map a.eval) (by simp) (args_rel hs args) hr' ats o.type
  have harr:(⟨args.toList.map a.eval⟩:Array Value)=args.map a.eval:=by
   apply Array.ext'
   simp
  rw[harr]at hu
  refine wp_value ?_ (hK u w γ Φ (.refl hI) hrel)
  unfold execOp
  simp only[ho,resolve,bind,Sem.run_bind']
  simp only[pure,Sem.run_pure',Result.andThen_ok,invoke,builtin]
  exact run_vval (by simpa using hu)
 ·rename_i args ats ho
  obtain⟨r',hr',he⟩:=Option.map_eq_some_iff.1 h
  simp only[Prod.mk.injEq]at he
  obtain⟨rfl,rfl⟩:=he
  obtain⟨u,hu,hrel⟩:=qmm_sound (E:=E) true (vs:=args.toList.map a.eval) (by simp) (args_rel hs args) hr' ats o.type
  have harr:(⟨args.toList.map a.eval⟩:Array Value)=args.map a.eval:=by
   apply Array.ext'
   simp
  rw[harr]at hu
  refine wp_value ?_ (hK u w γ Φ (.refl hI) hrel)
  unfold execOp
  simp only[ho,resolve,bind,Sem.run_bind']
  simp only[pure,Sem.run_pure',Result.andThen_ok,invoke,builtin]
  exact run_vval (by simpa using hu)
 ·rename_i ty ps ho
  split at h
  ·obtain⟨r',hr',he⟩:=Option.map_eq_some_iff.1 h
   simp only[Prod.mk.injEq]at he
   obtain⟨rfl,rfl⟩:=he
   obtain⟨u,hu,hrel⟩:=qbuildA2_sound (γ:=γ) (H:=σ.h) (Φ:=Φ) (w:=w) (vparts:=ps.map fun(p:Nat×Operand)=>(p.1,a.eval p.2)) (by simp) (parts_rel hs ps) hr'
   refine wp_value ?_ (hK u w γ Φ (.refl hI) hrel)
   unfold execOp
   simp only[ho]
   exact run_vval hu
  refine quiet ?_
  rw[ho]
  exact h
 ·rename_i ty x ho
  exact one (s:=Instr.range ty (a.eval x)) (fun W=>by unfold execOp;simp only[ho]<;>rfl) (erange_sound hI (ev_rel hs x) h)
 ·rename_i x s ho
  exact one (s:=Instr.next (a.eval x) s o.type) (fun W=>by unfold execOp;simp only[ho]<;>rfl) (enext_sound hI (ev_rel hs x) h)
 ·rename_i ty x f ho
  obtain⟨r',hr',he⟩:=Option.map_eq_some_iff.1 h
  simp only[Prod.mk.injEq]at he
  obtain⟨rfl,rfl⟩:=he
  obtain⟨u,hu,hrel⟩:=qfield_sound (ev_rel hs x) hr'
  refine wp_value ?_ (hK u w γ Φ (.refl hI) hrel)
  unfold execOp
  simp only[ho]
  exact run_vval hu
 ·rename_i ty x ho
  obtain⟨r',hr',he⟩:=Option.map_eq_some_iff.1 h
  simp only[Prod.mk.injEq]at he
  obtain⟨rfl,rfl⟩:=he
  obtain⟨hu,hrel⟩:=qmkI_sound (ev_rel hs x) hr'
  refine wp_value ?_ (hK _ w γ Φ (.refl hI) hrel)
  unfold execOp
  simp only[ho]
  exact run_vval hu
 ·rename_i op ty x y yt ho
  split at h
  ·rename_i hy
   obtain⟨r',hr',he⟩:=Option.map_eq_some_iff.1 h
   simp only[Prod.mk.injEq]at he
   obtain⟨rfl,rfl⟩:=he
   have hyn:=isNil_eq hy
   subst hyn
   obtain⟨u,hu,hrel⟩:=qnil2_sound op ty x (ev_rel hs x) hr'
   refine wp_value ?_ (hK u w γ Φ (.refl hI) hrel)
   unfold execOp
   simp only[ho]
   exact run_vval hu
  split at h
  ·rename_i ks hks
   obtain⟨r',hr',he⟩:=Option.map_eq_some_iff.1 h
   simp only[Prod.mk.injEq]at he
   obtain⟨rfl,rfl⟩:=he
   obtain⟨u,hu,hrel⟩:=qeq_sound (x:=x) (y:=y) hks (ev_rel hs x) (ev_rel hs y) hr'
   refine wp_value ?_ (hK u w γ Φ (.refl hI) hrel)
   unfold execOp
   simp only[ho]
   exact run_vval hu
  refine quiet ?_
  rw[ho]
  exact h
 exact quiet h
end
end Go.Abs
namespace Go.Abs
open Go.RowKit
section
variable {E:Env}{O:Orc}{γ₀:List Gh}{H₀:List AObj}{Φ₀:Nat→Nat→Prop}{w₀:World}{σ σ':St}{a:Act}{w:World}
theorem yielded_of{γ:List Gh}{H:List AObj}{Φ:Nat→Nat→Prop}{t:Nat→AV}(hs:Slots γ H Φ w a t){ops:Array Oper}{j g:Nat}{b:Bool}(hg:(ops[j]?).bind (·.dst)=some g)(hb:t g=.pv (.bool b)):yielded ops a.tmps j=some b:=by
 have h:=hs g
 rw[hb]at h
 have hv:=rep_bool (arel_pv h)
 have hlt:g<a.tmps.size:=by
  rcases Nat.lt_or_ge g a.tmps.size with h1|h1
  ·exact h1
  rw[Array.getD_eq_getD_getElem?,Array.getElem?_eq_none h1]at hv
  simp[undef]at hv
 have he:a.tmps[g]?=some (.bool b):=by
  rw[Array.getD_eq_getD_getElem?,Array.getElem?_eq_getElem hlt]at hv
  rw[Array.getElem?_eq_getElem hlt]
  exact congrArg some hv
 unfold yielded
 rw[hg]
 simp[he]
theorem undef_rel{γ:List Gh}{H:List AObj}{Φ:Nat→Nat→Prop}:ARel γ H Φ w undef (.tup []):=.tup [] [] rfl (fun k v c hv=>by simp at hv)
theorem arel_undef{γ:List Gh}{H:List AObj}{Φ:Nat→Nat→Prop}{v:Value}(h:ARel γ H Φ w v (.tup [])):v=undef:=by
 cases h with
 | tup ws vs hl _=>
   have:ws=[]:=List.eq_nil_of_length_eq_zero hl
   subst this
   rfl
theorem yielded_undef{γ:List Gh}{H:List AObj}{Φ:Nat→Nat→Prop}{t:Nat→AV}(hs:Slots γ H Φ w a t){ops:Array Oper}{j g:Nat}(hg:(ops[j]?).bind (·.dst)=some g)(hb:t g=.tup []):yielded ops a.tmps j=none:=by
 have h:=hs g
 rw[hb]at h
 have hv:=arel_undef h
 unfold yielded
 rw[hg]
 simp only[Option.bind_some]
 split
 ·rename_i b hb
  rw[Array.getD_eq_getD_getElem?,hb]at hv
  simp[undef]at hv
 rfl
theorem astep_sound(hS:Sound E O){ops:Array Oper}{o:Oper}(h:astep E O ops σ o=some σ')(hR:Rel E γ₀ H₀ Φ₀ w₀ σ a w){K:Act→World→Prop}{Q:Exit→Act→World→Prop}(hK:∀a' w',Rel E γ₀ H₀ Φ₀ w₀ σ' a' w'→K a' w'):
 if Region.wanted o (yielded ops a.tmps)=true then o.wp E.P a w K Q else K (a.put o.dst undef) w:=by
 obtain⟨⟨γ,Φ,hok,hs⟩,hsz,hd,h0⟩:=hR
 have go:((aop E O σ o).bind fun r=>put σ o.dst r.1 r.2)=some σ'→o.wp E.P a w K Q:=by
  intro h
  obtain⟨⟨r,H'⟩,hr,hp⟩:=Option.bind_eq_some_iff.1 h
  exact aop_sound hS hok.inv hs hr (fun u w' γ' Φ' hk hu=>hK _ _ (rel_put hok hs hsz hd h0 hk (.inr hu) hp))
 unfold astep at h
 split at h
 ·rename_i hg
  rw[if_pos (by simp[Region.wanted,hg])]
  exact go h
 rename_i j want hg
 split at h
 ·rename_i g hgd
  split at h
  ·rename_i b hb
   have hy:=yielded_of hs hgd hb
   split at h
   ·rename_i hbw
    rw[if_pos (by simp[Region.wanted,hg,hy,hbw])]
    exact go h
   rename_i hbw
   rw[if_neg (by simp[Region.wanted,hg,hy,hbw])]
   exact hK _ _ (rel_put hok hs hsz hd h0 (.refl hok.inv) (.inr undef_rel) h)
  ·rename_i hb
   have hy:=yielded_undef hs hgd hb
   rw[if_neg (by simp[Region.wanted,hg,hy])]
   exact hK _ _ (rel_put hok hs hsz hd h0 (.refl hok.inv) (.inr undef_rel) h)
  cases h
 cases h
theorem arun_sound(hS:Sound E O){ops:Array Oper}{Q:Exit→Act→World→Prop}:∀ (l:List Oper) (σ:St) (a:Act) (w:World),arun E O ops l σ=some σ'→Rel E γ₀ H₀ Φ₀ w₀ σ a w→
 (∀a' w',Rel E γ₀ H₀ Φ₀ w₀ σ' a' w'→Q .normal a' w')→wpList E.P ops Q l a w
 | [],σ,a,w,h,hR,hQ=>by
   simp only[arun,Option.some.injEq]at h
   subst h
   exact hQ a w hR
 | o::l,σ,a,w,h,hR,hQ=>by
   obtain⟨σ1,h1,h2⟩:=Option.bind_eq_some_iff.1 h
   exact wpList_step fun K hK=>astep_sound hS h1 hR (fun a' w' hR'=>hK a' w' (arun_sound hS l σ1 a' w' h2 hR' hQ))
def AW(E:Env)(k:Nat)(c:Code)(Q:Exit→St→Prop)(σ:St):Prop:=
 ∀γ₀ H₀ Φ₀ w₀ a w,H₀.length=k→Rel E γ₀ H₀ Φ₀ w₀ σ a w→c.wp E.P (fun e a' w'=>∃σ',Rel E γ₀ H₀ Φ₀ w₀ σ' a' w'∧Q e σ') a w
def thenQ(next:St→Prop)(Q:Exit→St→Prop):Exit→St→Prop
 | .normal,σ=>next σ
 | e,σ=>Q e σ
def blockQ(id:Nat)(Q:Exit→St→Prop):Exit→St→Prop
 | .exit id',σ=>if id'=id then Q .normal σ else Q (.exit id') σ
 | e,σ=>Q e σ
variable {Q:Exit→St→Prop}{k:Nat}
theorem AW.mono{c:Code}{Q':Exit→St→Prop}(h:AW E k c Q σ)(hq:∀e σ,Q e σ→Q' e σ):AW E k c Q' σ:=
 fun γ₀ H₀ Φ₀ w₀ a w hl hR=>wp_mono (h γ₀ H₀ Φ₀ w₀ a w hl hR) (fun e _ _ ⟨σ',hR',hQ⟩=>⟨σ',hR',hq e σ' hQ⟩)
theorem AW.region(hS:Sound E O){id:Nat}{ops:Array Oper}(h:arun E O ops ops.toList σ=some σ')(hQ:Q .normal σ'):AW E k (.region id ops false) Q σ:=
 fun _ _ _ _ a w _ hR=>wp_region_list (arun_sound hS ops.toList σ a w h hR (fun _ _ hR'=>⟨σ',hR',hQ⟩))
theorem AW.seq{x y:Code}(h:AW E k x (thenQ (AW E k y Q) Q) σ):AW E k (.seq x y) Q σ:=by
 intro γ₀ H₀ Φ₀ w₀ a w hl hR
 refine wp_seq (wp_mono (h γ₀ H₀ Φ₀ w₀ a w hl hR) (fun e a' w' ⟨σ',hR',hQ⟩=>?_))
 cases e with
 | normal=>exact hQ γ₀ H₀ Φ₀ w₀ a' w' hl hR'
 | _=>exact⟨σ',hR',hQ⟩
theorem AW.cond{c:Operand}{x y:Code}{b:Bool}(hc:ev σ.t c=.pv (.bool b))(ht:b=true→AW E k x Q σ)(hf:b=false→AW E k y Q σ):AW E k (.cond c x y) Q σ:=by
 intro γ₀ H₀ Φ₀ w₀ a w hl hR
 have hR':=hR
 obtain⟨⟨γ,Φ,hok,hs⟩,_,_,_⟩:=hR'
 have h:=ev_rel hs c
 rw[hc]at h
 exact wp_cond_split (rep_bool (arel_pv h)) (fun hb=>ht hb γ₀ H₀ Φ₀ w₀ a w hl hR) (fun hb=>hf hb γ₀ H₀ Φ₀ w₀ a w hl hR)
theorem AW.skip(h:Q .normal σ):AW E k .skip Q σ:=fun _ _ _ _ _ _ _ hR=>wp_skip ⟨σ,hR,h⟩
theorem AW.ret(h:Q .ret σ):AW E k .ret Q σ:=fun _ _ _ _ _ _ _ hR=>wp_ret ⟨σ,hR,h⟩
theorem AW.exit{id:Nat}(h:Q (.exit id) σ):AW E k (.exit id) Q σ:=fun _ _ _ _ _ _ _ hR=>wp_exit ⟨σ,hR,h⟩
theorem AW.block{id:Nat}{c:Code}(h:AW E k c (blockQ id Q) σ):AW E k (.block id c) Q σ:=by
 intro γ₀ H₀ Φ₀ w₀ a w hl hR
 refine wp_block (wp_mono (h γ₀ H₀ Φ₀ w₀ a w hl hR) (fun e a' w' ⟨σ',hR',hQ⟩=>?_))
 cases e with
 | exit id'=>
   simp only[blockQ]at hQ
   simp only[Exit.inBlock]
   split
   ·rename_i he
    rw[if_pos he]at hQ
    exact⟨σ',hR',hQ⟩
   rename_i he
   rw[if_neg he]at hQ
   exact⟨σ',hR',hQ⟩
 | _=>exact⟨σ',hR',hQ⟩
def Weak(E:Env)(k:Nat)(σ σ':St):Prop:=∀γ₀ H₀ Φ₀ w₀ a w,H₀.length=k→Rel E γ₀ H₀ Φ₀ w₀ σ a w→Rel E γ₀ H₀ Φ₀ w₀ σ' a w
theorem Weak.trans{σ₁ σ₂ σ₃:St}(h:Weak E k σ₁ σ₂)(h':Weak E k σ₂ σ₃):Weak E k σ₁ σ₃:=fun _ _ _ _ _ _ hl hR=>h' _ _ _ _ _ _ hl (h _ _ _ _ _ _ hl hR)
theorem AW.weak{c:Code}(hw:Weak E k σ σ')(h:AW E k c Q σ'):AW E k c Q σ:=fun γ₀ H₀ Φ₀ w₀ a w hl hR=>h γ₀ H₀ Φ₀ w₀ a w hl (hw γ₀ H₀ Φ₀ w₀ a w hl hR)
theorem least(p:Nat→Prop)(h:∃n,p n):∃n,p n∧∀m,p m→n≤m:=by
 obtain⟨n,hn⟩:=h
 induction n using Nat.strongRecOn with
 | _ n ih=>
   by_cases hm:∃m,m<n∧p m
   ·obtain⟨m,hlt,hpm⟩:=hm
    exact ih m hlt hpm
   exact⟨n,hn,fun m hpm=>Nat.le_of_not_lt fun hlt=>hm ⟨m,hlt,hpm⟩⟩
open Classical in
theorem AW.loop{c:Code}(I:St→Prop)(μ:St→Nat)(h0:I σ)(hr:∀σ,I σ→AW E k c (thenQ (fun σ'=>∃σ'',Weak E k σ' σ''∧I σ''∧μ σ''<μ σ) Q) σ):AW E k (.loop c) Q σ:=by
 intro γ₀ H₀ Φ₀ w₀ a w hl hR
 let p:Act→World→Nat→Prop:=fun a w n=>∃σ,Rel E γ₀ H₀ Φ₀ w₀ σ a w∧I σ∧μ σ=n
 let m:Act→World→Nat:=fun a w=>if h:∃n,p a w n then Classical.choose (least (p a w) h)else 0
 have hm:∀a w,(∃n,p a w n)→p a w (m a w)∧∀n,p a w n→m a w≤n:=by
  intro a w h
  have:=Classical.choose_spec (least (p a w) h)
  simp only[m,dif_pos h]
  exact this
 refine wp_loop (fun a w=>∃n,p a w n) m ⟨μ σ,σ,hR,h0,rfl⟩ (fun a w hI=>?_)
 obtain⟨⟨σ1,hR1,hI1,hμ1⟩,hmin⟩:=hm a w hI
 refine wp_mono (hr σ1 hI1 γ₀ H₀ Φ₀ w₀ a w hl hR1) (fun e a' w' ⟨σ',hR',hQ⟩=>?_)
 cases e with
 | normal=>
   obtain⟨σ'',hw,hI2,hlt⟩:=hQ
   have hR2:=hw γ₀ H₀ Φ₀ w₀ a' w' hl hR'
   have hex:∃n,p a' w' n:=⟨μ σ'',σ'',hR2,hI2,rfl⟩
   exact⟨hex,by have:=(hm a' w' hex).2 (μ σ'') ⟨σ'',hR2,hI2,rfl⟩;omega⟩
 | _=>exact⟨σ',hR',hQ⟩
end
end Go.Abs
