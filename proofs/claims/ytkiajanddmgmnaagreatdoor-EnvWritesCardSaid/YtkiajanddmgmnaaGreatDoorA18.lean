import Derived.Test.YtkiajanddmgmnaaGreatDoorA17
import Derived.Laws.StructEq
/- The abstract machine, part 18: one step is sound. -/
namespace Go.Abs
open Go.RowKit

section
variable {E : Env} {O : Orc} {γ : List Gh} {H H' : List AObj} {Φ : Nat → Nat → Prop} {w : World} {a : Act} {σ : St} {o : Oper} {r : AV}

theorem wp_value {K : Act → World → Prop} {Q : Exit → Act → World → Prop} {u : Value} {w' : World} (h : (execOp a.eval o).run E.P w = .ok (.value u) w') (hK : K (a.put o.dst u) w') : o.wp E.P a w K Q := by
  unfold Oper.wp
  rw [h]
  exact hK

theorem wp_skip1 {K : Act → World → Prop} {Q : Exit → Act → World → Prop} {w' : World} (h : (execOp a.eval o).run E.P w = .ok .skip w') (hK : K (a.put o.dst undef) w') : o.wp E.P a w K Q := by
  unfold Oper.wp
  rw [h]
  exact hK

theorem run_uskip {s : Sem Unit} {w' : World} (h : s.run E.P w = .ok () w') : (do s; pure .skip : Sem Next).run E.P w = .ok .skip w' := by
  simp only [bind, Sem.run_bind', h, Result.andThen_ok]
  rfl

theorem run_call {f : FuncId} {args : Array Operand} {ats : Array TypeId} (ho : o.op = .call ⟨.value (.func f), args, ats⟩) {fn : Func} (hf : E.P.funcs[f]? = some fn) (hb : fn.body.isSome = true) (hn : (fn.name == "runtime.NumGoroutine") = false) :
    (execOp a.eval o).run E.P w = .ok (.enter f (args.map a.eval)) w := by
  have hb' : fn.body ≠ none := fun h => by simp [h] at hb
  have hn' : fn.name ≠ "runtime.NumGoroutine" := by simpa using hn
  unfold execOp
  simp only [ho]
  simp [resolve, Act.eval, Deferred.ofValue, invoke, callFunc, hf, hn', hb']

theorem parts_rel {t : Nat → AV} (hs : Slots γ H Φ w a t) (parts : Array (Nat × Operand)) : ∀ (j : Nat) (p : Nat × AV) (q : Nat × Value), (parts.toList.map fun p => (p.1, ev t p.2))[j]? = some p → (parts.map fun (p : Nat × Operand) => (p.1, a.eval p.2))[j]? = some q → q.1 = p.1 ∧ ARel γ H Φ w q.2 p.2 := by
  intro j p q hp hq
  rw [List.getElem?_map] at hp
  rw [Array.getElem?_map] at hq
  obtain ⟨z, hz, rfl⟩ := Option.map_eq_some_iff.1 hp
  rw [Array.getElem?_toList] at hz
  rw [hz] at hq
  simp only [Option.map_some, Option.some.injEq] at hq
  subst hq
  exact ⟨rfl, ev_rel hs z.2⟩

theorem args_rel {t : Nat → AV} (hs : Slots γ H Φ w a t) (args : Array Operand) : ∀ (i : Nat) v b, (args.toList.map a.eval)[i]? = some v → (args.toList.map (ev t))[i]? = some b → ARel γ H Φ w v b := by
  intro i v b hv hb
  rw [List.getElem?_map] at hv hb
  obtain ⟨z, hz, rfl⟩ := Option.map_eq_some_iff.1 hv
  rw [hz] at hb
  simp only [Option.map_some, Option.some.injEq] at hb
  subst hb
  exact ev_rel hs z

theorem ret_map {rs : List AV} {f : AV → AV} {vs : List Value} {γ' : List Gh} {Φ' : Nat → Nat → Prop} {w' : World} (hl : vs.length = rs.length) (h : ∀ (i : Nat) v b, vs[i]? = some v → rs[i]? = some b → ARel γ' H' Φ' w' v (f b)) : ARel γ' H' Φ' w' (retV vs) (retAV (rs.map f)) :=
  ret_rel (by simpa using hl) (fun i v b hv hb => by
    rw [List.getElem?_map] at hb
    obtain ⟨c, hc, rfl⟩ := Option.map_eq_some_iff.1 hb
    exact h i v c hv hc)

theorem ecall_sound (hS : Sound E O) (hI : OInv E γ H Φ w) {f : FuncId} {args : List AV} {cargs : List Value} (hl : cargs.length = args.length) (hr : ∀ (i : Nat) v b, cargs[i]? = some v → args[i]? = some b → ARel γ H Φ w v b)
    (h : ecall O H f args = some (r, H')) : (∃ fn, E.P.funcs[f]? = some fn ∧ fn.body.isSome = true ∧ (fn.name == "runtime.NumGoroutine") = false) ∧
      Calls E.P f ⟨cargs⟩ w fun e w' => ∃ u γ' Φ', e = .returned u ∧ Ok E γ H Φ w γ' H' Φ' w' ∧ ARel γ' H' Φ' w' u r := by
  unfold ecall at h
  simp only at h
  generalize hsel : dedup (locsOf H args ++ innerLocs H (locsOf H args)) = sel at h
  have hnd : sel.Nodup := by rw [← hsel]; exact dedup_nodup _
  split at h
  · rename_i Hs as hHs has
    split at h
    · rename_i rs Hr hC
      split at h
      · rename_i hle
        simp only [Option.some.injEq, Prod.mk.injEq] at h
        obtain ⟨rfl, rfl⟩ := h
        obtain ⟨hg, hfn⟩ := hS f as Hs rs Hr hC
        obtain ⟨hal, harn⟩ := renArgs_spec has
        refine ⟨hfn, (hg w Φ (selGh γ sel) cargs (hI.select hnd hHs) (by omega) (fun i v b hv hb => ?_)).mono ?_⟩
        · have hi : i < args.length := by
            have := (List.getElem?_eq_some_iff.1 hv).1
            omega
          have har := hr i v args[i] hv (List.getElem?_eq_getElem hi)
          rcases harn i args[i] b (List.getElem?_eq_getElem hi) hb with ⟨p, hp, rfl⟩ | hren
          · exact .pv (toPV_rep hI har hp)
          · exact har.select hI hHs hren
        · rintro e w' ⟨vs, γ', Φ', rfl, hok, hvl, hvr⟩
          have hlen := hI.len
          have hlen' := hok.inv.len
          obtain ⟨hsl, hget⟩ := selObjs_get hHs
          have hlt : ∀ l ∈ sel, l < H.length := by
            intro l hm
            obtain ⟨i, hi, hil⟩ := List.getElem_of_mem hm
            obtain ⟨l', o', h1, h2, _⟩ := hget i (Hs[i]'(by omega)) (List.getElem?_eq_getElem (by omega))
            rw [List.getElem?_eq_getElem hi, hil] at h1
            injection h1 with h1
            subst h1
            exact (List.getElem?_eq_some_iff.1 h2).1
          exact ⟨_, _, Φ', rfl, hok.back hI hnd hHs hle, ret_map hvl (fun i v b hv hb => (hvr i v b hv hb).back hnd hlt hlen hlen' (by omega))⟩
      · cases h
    · cases h
  · cases h

theorem qcall_sound (hS : Sound E O) (hI : OInv E γ H Φ w) {f : FuncId} {args : List AV} {cargs : List Value} (hl : cargs.length = args.length) (hr : ∀ (i : Nat) v b, cargs[i]? = some v → args[i]? = some b → ARel γ H Φ w v b)
    (h : qcall O H f args = some r) : (∃ fn, E.P.funcs[f]? = some fn ∧ fn.body.isSome = true ∧ (fn.name == "runtime.NumGoroutine") = false) ∧
      Calls E.P f ⟨cargs⟩ w fun e w' => ∃ u γ' Φ', e = .returned u ∧ Ok E γ H Φ w γ' H Φ' w' ∧ ARel γ' H Φ' w' u r := by
  unfold qcall at h
  split at h
  · rename_i ps hps
    split at h
    · rename_i rs hC
      split at h
      · rename_i qs hqs
        simp only [Option.some.injEq] at h
        subst h
        obtain ⟨hg, hfn⟩ := hS f _ _ _ _ hC
        obtain ⟨hal, harn⟩ := argsPV_spec hps
        have hs0 : selObjs H (idx []) [] = some [] := rfl
        refine ⟨hfn, (hg w Φ (selGh γ []) cargs (hI.select (by simp) hs0) (by simp; omega) (fun i v b hv hb => ?_)).mono ?_⟩
        · have hi : i < args.length := by
            have := (List.getElem?_eq_some_iff.1 hv).1
            omega
          rw [List.getElem?_map] at hb
          obtain ⟨p, hp, rfl⟩ := Option.map_eq_some_iff.1 hb
          exact .pv (toPV_rep hI (hr i v args[i] hv (List.getElem?_eq_getElem hi)) (harn i args[i] p (List.getElem?_eq_getElem hi) hp))
        · rintro e w' ⟨vs, γ', Φ', rfl, hok, hvl, hvr⟩
          have hb := hok.back hI (by simp) hs0 (by simp)
          have e2 : backObjs H [] [] = H := by
            unfold backObjs
            simp only [List.drop_nil, List.map_nil, List.append_nil]
            refine List.ext_getElem? fun l => ?_
            rw [List.getElem?_map]
            by_cases hl : l < H.length
            · rw [List.getElem?_range hl]
              simp [idx, List.getD_eq_getElem?_getD, hl]
            · rw [List.getElem?_eq_none (show (List.range H.length).length ≤ l by simp; omega), List.getElem?_eq_none (show H.length ≤ l by omega)]
              rfl
          rw [e2] at hb
          have hqv := allPV_spec hqs
          refine ⟨_, _, Φ', rfl, hb, ret_rel hvl (fun i v b hv hb => ?_)⟩
          have hvb := hvr i v b hv hb
          rw [hqv, List.getElem?_map] at hb
          obtain ⟨p, _, rfl⟩ := Option.map_eq_some_iff.1 hb
          exact .pv (arel_pv hvb)
      · cases h
    · cases h
  · cases h

theorem pv_equal {P : Program} {v u : Value} {k : EK} {p q : PV} {b : Bool} {t : TypeId} {d : TypeDesc} (hv : Rep Φ w v p) (hu : Rep Φ w u q) (h : pvEq k p q = some b) (ht : P.underlying t = some d) (hk : k.fits d) (n : Nat) :
    (Op.equalIn (n + 1) t v u).run P w = .ok b w := by
  unfold pvEq at h
  split at h
  · obtain ⟨j, rfl⟩ := hk
    split at h
    · rename_i hkk
      subst hkk
      injection h with h
      subst h
      have h1 := rep_int hv
      have h2 := rep_int hu
      subst h1 h2
      rw [run_equalIn_int w n t _ j _ _ ht]
      rfl
    · cases h
  · cases hk
    injection h with h
    subst h
    have h1 := rep_str hv
    have h2 := rep_str hu
    subst h1 h2
    rw [run_equalIn_string w n t _ _ ht]
    congr 1
    rw [Bool.eq_iff_iff, beq_iff_eq, decide_eq_true_eq, ByteArray.toList_eq, ByteArray.toList_eq]
  · cases hk
    injection h with h
    subst h
    have h1 := rep_bool hv
    have h2 := rep_bool hu
    subst h1 h2
    exact run_equalIn_bool w n t _ _ ht
  · cases h

theorem fits_part {P : Program} {t : TypeId} {k : EK} {d : TypeDesc} (ht : P.underlying t = some d) (hk : k.fits d) {xs : List Value} {j : Nat} {v : Value} (hx : xs[j]? = some v) : (part t ⟨xs⟩ j).run P w = .ok v w := by
  have hj : j < xs.length := (List.getElem?_eq_some_iff.1 hx).1
  have hv : xs[j] = v := by rw [List.getElem?_eq_getElem hj] at hx; exact Option.some.inj hx
  unfold part
  cases k with
  | bool => cases hk; simp [run_isAgg ht, isAggD, hj, hv]
  | str => cases hk; simp [run_isAgg ht, isAggD, hj, hv]
  | int => obtain ⟨k, rfl⟩ := hk; simp [run_isAgg ht, isAggD, hj, hv]

theorem cellsEq_append : ∀ {k1 k2 : List EK} {cs ds : List PV} {r : Bool}, cellsEq (k1 ++ k2) cs ds = some r → ∃ r1 r2, cellsEq k1 (cs.take k1.length) (ds.take k1.length) = some r1 ∧ cellsEq k2 (cs.drop k1.length) (ds.drop k1.length) = some r2 ∧ r = (r1 && r2)
  | [], k2, cs, ds, r, h => ⟨true, r, rfl, h, by simp⟩
  | k :: k1, k2, [], ds, r, h => by simp [cellsEq] at h
  | k :: k1, k2, c :: cs, [], r, h => by simp [cellsEq] at h
  | k :: k1, k2, c :: cs, d :: ds, r, h => by
    simp only [List.cons_append, cellsEq] at h
    split at h
    · rename_i a b ha hb
      simp only [Option.some.injEq] at h
      obtain ⟨r1, r2, h1, h2, h3⟩ := cellsEq_append hb
      refine ⟨a && r1, r2, ?_, h2, by rw [← h, h3, Bool.and_assoc]⟩
      simp only [List.length_cons, List.take_succ_cons, cellsEq, ha, h1]
    · cases h

theorem part_sub {P : Program} {t : TypeId} {sub : Array Field} {i : TypeInfo} (ht : P.underlying t = some (.struct sub)) (hi : P.info? t = some i) (xs : List Value) (j : Nat) : (part t ⟨xs⟩ j).run P w = .ok (.agg ⟨(xs.drop j).take i.size⟩) w := by
  have he : (⟨xs⟩ : Array Value).extract j (j + i.size) = ⟨(xs.drop j).take i.size⟩ := by
    apply Array.ext'
    simp [List.take_drop]
  unfold part
  simp [run_isAgg ht, isAggD, run_sizeOf hi]

theorem eq_fields {P : Program} {n : Nat} {fs : List Field} {j : Nat} {ks : List EK} (hF : FitsF P n fs j ks) : ∀ {xs ys : List Value} {cs ds : List PV} (_hx : xs.length = cs.length) (_hy : ys.length = ds.length) (_hxr : ∀ (k : Nat) v c, xs[k]? = some v → cs[k]? = some c → Rep Φ w v c) (_hyr : ∀ (k : Nat) v c, ys[k]? = some v → ds[k]? = some c → Rep Φ w v c) (N : Nat) (_hN : n ≤ N) (r : Bool), cellsEq ks (cs.drop j) (ds.drop j) = some r →
      (Op.eqFields (N + 1) ⟨xs⟩ ⟨ys⟩ fs).run P w = .ok r w := by
  induction hF with
  | nil n j =>
    intro xs ys cs ds hx hy hxr hyr N hN r h
    generalize cs.drop j = a at h
    generalize ds.drop j = b at h
    cases a <;> cases b <;> simp only [cellsEq, Option.some.injEq, reduceCtorEq] at h
    subst h
    rfl
  | @one n f fs j k ks d hn ho hd hk hr ih =>
    intro xs ys cs ds hx hy hxr hyr N hN r h
    have hj : j < cs.length := by
      rcases Nat.lt_or_ge j cs.length with h1 | h1
      · exact h1
      · rw [List.drop_eq_nil_of_le h1] at h
        simp [cellsEq] at h
    have hjd : j < ds.length := by
      rcases Nat.lt_or_ge j ds.length with h1 | h1
      · exact h1
      · rw [List.drop_eq_nil_of_le h1] at h
        simp [cellsEq] at h
    rw [List.drop_eq_getElem_cons hj, List.drop_eq_getElem_cons hjd] at h
    simp only [cellsEq] at h
    split at h
    · rename_i a b ha hb
      simp only [Option.some.injEq] at h
      have hxv := hxr j xs[j] cs[j] (List.getElem?_eq_getElem (by omega)) (List.getElem?_eq_getElem hj)
      have hyv := hyr j ys[j] ds[j] (List.getElem?_eq_getElem (by omega)) (List.getElem?_eq_getElem hjd)
      have ih := ih hx hy hxr hyr N (by omega) b hb
      have px : (part f.type ⟨xs⟩ f.offset).run P w = .ok xs[j] w := by rw [ho]; exact fits_part hd hk (List.getElem?_eq_getElem (by omega))
      have py : (part f.type ⟨ys⟩ f.offset).run P w = .ok ys[j] w := by rw [ho]; exact fits_part hd hk (List.getElem?_eq_getElem (by omega))
      have pe := pv_equal (P := P) hxv hyv ha hd hk N
      simp only [Op.eqFields, if_pos hn, bind, Sem.run_bind', px, py, pe, Result.andThen_ok]
      subst h
      cases a with
      | true => simpa using ih
      | false => rfl
    · cases h
  | @sub n f fs j ks1 ks2 sub i hn ho hd hh hi hs h1 hr ih1 ih2 =>
    intro xs ys cs ds hx hy hxr hyr N hN r h
    subst ho
    obtain ⟨r1, r2, e1, e2, e3⟩ := cellsEq_append h
    rw [List.drop_drop] at e2
    rw [List.drop_drop] at e2
    have px := part_sub (w := w) hd hi xs f.offset
    have py := part_sub (w := w) hd hi ys f.offset
    have sub_rel : ∀ {zs : List Value} {bs : List PV}, (∀ (k : Nat) v c, zs[k]? = some v → bs[k]? = some c → Rep Φ w v c) → ∀ (k : Nat) v c, ((zs.drop f.offset).take i.size)[k]? = some v → ((bs.drop f.offset).take i.size)[k]? = some c → Rep Φ w v c := by
      intro zs bs hz k v c hv hc
      rw [List.getElem?_take] at hv hc
      split at hv
      · rename_i hk
        rw [if_pos hk] at hc
        rw [List.getElem?_drop] at hv hc
        exact hz _ v c hv hc
      · cases hv
    obtain ⟨M, rfl⟩ : ∃ M, N = M + 1 := ⟨N - 1, by omega⟩
    have s1 := ih1 (xs := (xs.drop f.offset).take i.size) (ys := (ys.drop f.offset).take i.size) (cs := (cs.drop f.offset).take i.size) (ds := (ds.drop f.offset).take i.size) (by simp [hx]) (by simp [hy]) (sub_rel hxr) (sub_rel hyr) M (by omega) r1 (by rw [List.drop_zero, List.drop_zero, hs]; exact e1)
    have s2 := ih2 hx hy hxr hyr (M + 1) (by omega) r2 e2
    have hfo : P.fieldsOf f.type = sub := by unfold Program.fieldsOf; rw [hd]
    have pe : (Op.equalIn (M + 1 + 1) f.type (.agg ⟨(xs.drop f.offset).take i.size⟩) (.agg ⟨(ys.drop f.offset).take i.size⟩)).run P w = .ok r1 w := by
      rw [run_equalIn_struct w (M + 1) f.type _ _ (by rw [hfo]; exact hd) hh, hfo]
      exact s1
    simp only [Op.eqFields, if_pos hn, bind, Sem.run_bind', px, py, pe, Result.andThen_ok]
    subst e3
    cases r1 with
    | true => simpa using s2
    | false => rfl

/-- Two structures compared. -/
theorem qeq_sound {t : TypeId} {ks : List EK} (hE : E.eqT t = some ks) {op : BinOp} {x y : Operand} {v u : Value} {a b r : AV} (hv : ARel γ H Φ w v a) (hu : ARel γ H Φ w u b) (h : qeq ks op a b = some r) :
    ∃ z, (do eqGuard op t x y v u; binOp op t v u : Sem Value).run E.P w = .ok z w ∧ ARel γ H Φ w z r := by
  obtain ⟨fields, h1, h2, h3, n, hn9, h4⟩ := (E.hEq t ks hE).ex
  unfold qeq at h
  split at h
  · rename_i cs ds
    have hv := arel_pv hv
    have hu := arel_pv hu
    cases hv with
    | agg vs _ hl1 _ hr1 =>
      cases hu with
      | agg us _ hl2 _ hr2 =>
        have hfo : E.P.fieldsOf t = fields := by unfold Program.fieldsOf; rw [h1]
        have hf : ∀ r, cellsEq ks cs ds = some r → (Op.equalIn 10000 t (.agg ⟨vs⟩) (.agg ⟨us⟩)).run E.P w = .ok r w := fun r hr => by
          rw [run_equalIn_agg w 9999 t ⟨vs⟩ ⟨us⟩ (by rw [hfo]; exact h1) h2, hfo]
          exact eq_fields h4 hl1 hl2 hr1 hr2 9998 (by omega) r (by simpa using hr)
        have hg := run_eqGuard_agg (P := E.P) w op t x y ⟨vs⟩ ⟨us⟩ h3
        split at h
        · obtain ⟨r', hr', rfl⟩ := Option.map_eq_some_iff.1 h
          refine ⟨.bool r', ?_, .pv (.bool r')⟩
          simp only [bind, Sem.run_bind', hg, Result.andThen_ok, run_eql_struct, hf r' hr']
        · obtain ⟨r', hr', rfl⟩ := Option.map_eq_some_iff.1 h
          refine ⟨.bool !r', ?_, .pv (.bool !r')⟩
          simp only [bind, Sem.run_bind', hg, Result.andThen_ok, run_neq_struct, hf r' hr']
        · cases h
  · cases h

theorem run_call2 {i : Nat} {f : FuncId} {cs : List Value} {args : Array Operand} {ats : Array TypeId} (ho : o.op = .call ⟨.value (.tmp i), args, ats⟩) (hi : a.tmps.getD i undef = .func (.func f) #[] ⟨cs⟩) {fn : Func} (hf : E.P.funcs[f]? = some fn) (hb : fn.body.isSome = true) (hn : (fn.name == "runtime.NumGoroutine") = false) :
    (execOp a.eval o).run E.P w = .ok (.enter f (args.map a.eval ++ ⟨cs⟩)) w := by
  have hb' : fn.body ≠ none := fun h => by simp [h] at hb
  have hn' : fn.name ≠ "runtime.NumGoroutine" := by simpa using hn
  unfold execOp
  simp only [ho]
  have he : a.eval (.tmp i) = .func (.func f) #[] ⟨cs⟩ := hi
  simp [resolve, he, Deferred.ofValue, invoke, callFunc, hf, hn', hb']

theorem aop_sound (hS : Sound E O) (hI : OInv E γ σ.h Φ w) (hs : Slots γ σ.h Φ w a σ.t) (h : aop E O σ o = some (r, H')) {K : Act → World → Prop} {Q : Exit → Act → World → Prop}
    (hK : ∀ u w' γ' Φ', Ok E γ σ.h Φ w γ' H' Φ' w' → ARel γ' H' Φ' w' u r → K (a.put o.dst u) w') : o.wp E.P a w K Q := by
  have one : ∀ {s : Sem Value}, (∀ W : World, (do pure (Next.value (← s)) : Sem Next).run E.P W = (execOp a.eval o).run E.P W) → (∃ u w', s.run E.P w = .ok u w' ∧ Steps1 E γ σ.h Φ w r H' u w') → o.wp E.P a w K Q := by
    rintro s he ⟨u, w', hu, γ', Φ', hok, hr⟩
    exact wp_value (by rw [← he]; exact run_vval hu) (hK u w' γ' Φ' hok hr)
  have none1 : ∀ {s : Sem Unit} {H1 : List AObj}, some (AV.any, H1) = some (r, H') → (∀ W : World, (do s; pure .skip : Sem Next).run E.P W = (execOp a.eval o).run E.P W) → (∃ w', s.run E.P w = .ok () w' ∧ ∃ γ' Φ', Ok E γ σ.h Φ w γ' H1 Φ' w') → o.wp E.P a w K Q := by
    rintro s H1 he1 he ⟨w', hu, γ', Φ', hok⟩
    simp only [Option.some.injEq, Prod.mk.injEq] at he1
    obtain ⟨rfl, rfl⟩ := he1
    exact wp_skip1 (by rw [← he]; exact run_uskip hu) (hK undef w' γ' Φ' hok (.any _))
  have quiet : (qval E.T σ.t σ.h o.op).map (fun r => (r, σ.h)) = some (r, H') → o.wp E.P a w K Q := by
    intro h
    obtain ⟨r', hr', he⟩ := Option.map_eq_some_iff.1 h
    simp only [Prod.mk.injEq] at he
    obtain ⟨rfl, rfl⟩ := he
    obtain ⟨u, hu, hrel⟩ := q_sound hI hs hr'
    exact wp_value hu (hK u w γ Φ (.refl hI) hrel)
  unfold aop at h
  split at h
  · rename_i ty ho
    exact one (fun W => by unfold execOp; simp only [ho] <;> rfl) (ealloc_sound hI h)
  · rename_i ty x ho
    exact one (fun W => by unfold execOp; simp only [ho] <;> rfl) (ebox_sound hI (ev_rel hs x) h)
  · rename_i ty len parts ho
    split at h
    · exact one (s := Instr.buildSlice ty len (parts.map fun (p : Nat × Operand) => (p.1, a.eval p.2))) (fun W => by unfold execOp; simp only [ho] <;> rfl) (ebuildOwn_sound hI (by simp) (parts_rel hs parts) h)
    · exact one (s := Instr.buildSlice ty len (parts.map fun (p : Nat × Operand) => (p.1, a.eval p.2))) (fun W => by unfold execOp; simp only [ho] <;> rfl) (ebuildSlice_sound hI (by simp) (parts_rel hs parts) h)
  · rename_i ty p x ho
    obtain ⟨H1, hH1, he⟩ := Option.map_eq_some_iff.1 h
    exact none1 (congrArg some he) (fun W => by unfold execOp; simp only [ho] <;> rfl) (estore_sound hI (ev_rel hs p) (ev_rel hs x) hH1)
  · rename_i ty ho
    exact one (s := Instr.makeMap ty none) (fun W => by unfold execOp; simp only [ho] <;> rfl) (emakeMap_sound hI ty h)
  · rename_i ty x y ho
    exact one (fun W => by unfold execOp; simp only [ho] <;> rfl) (emakeSlice_sound hI (ev_rel hs x) (ev_rel hs y) h)
  · rename_i ty m k v ho
    obtain ⟨H1, hH1, he⟩ := Option.map_eq_some_iff.1 h
    exact none1 (congrArg some he) (fun W => by unfold execOp; simp only [ho] <;> rfl) (emapUpdate_sound hI (ev_rel hs m) (ev_rel hs k) (ev_rel hs v) hH1)
  · rename_i ty m k v ho
    obtain ⟨H1, hH1, he⟩ := Option.map_eq_some_iff.1 h
    exact none1 (congrArg some he) (fun W => by unfold execOp; simp only [ho] <;> rfl) (emapUpdate_sound hI (ev_rel hs m) (ev_rel hs k) (ev_rel hs v) hH1)
  · rename_i args ats ho
    split at h
    · rename_i x y t1 t2 hxy ht
      split at h
      · rename_i htt
        subst htt
        have ha : args = #[x, y] := by rw [← Array.toArray_toList (xs := args), hxy]
        have hat : ats = #[t1, t1] := by rw [← Array.toArray_toList (xs := ats), ht]
        subst ha; subst hat
        obtain ⟨u, w', hu, γ', Φ', hok, hr⟩ := eappend_sound (t := o.type) hI (ev_rel hs x) (ev_rel hs y) h
        refine wp_value ?_ (hK u w' γ' Φ' hok hr)
        unfold execOp
        simp only [ho, resolve, bind, Sem.run_bind']
        simp only [pure, Sem.run_pure', Result.andThen_ok, invoke, builtin]
        exact run_vval (by simpa using hu)
      · cases h
    · cases h
  · rename_i f args ats ho
    have hcl : (args.toList.map a.eval).length = (args.toList.map (ev σ.t)).length := by simp
    have harr : (⟨args.toList.map a.eval⟩ : Array Value) = args.map a.eval := by
      apply Array.ext'
      simp
    split at h
    · obtain ⟨r', hr', he⟩ := Option.map_eq_some_iff.1 h
      simp only [Prod.mk.injEq] at he
      obtain ⟨rfl, rfl⟩ := he
      obtain ⟨⟨fn, hf, hb, hn⟩, hcalls⟩ := qcall_sound hS hI hcl (args_rel hs args) hr'
      unfold Oper.wp
      rw [run_call ho hf hb hn]
      rw [harr] at hcalls
      refine hcalls.mono ?_
      rintro e w' ⟨u, γ', Φ', rfl, hok, hr⟩
      exact hK u w' γ' Φ' hok hr
    · obtain ⟨⟨fn, hf, hb, hn⟩, hcalls⟩ := ecall_sound hS hI hcl (args_rel hs args) h
      unfold Oper.wp
      rw [run_call ho hf hb hn]
      rw [harr] at hcalls
      refine hcalls.mono ?_
      rintro e w' ⟨u, γ', Φ', rfl, hok, hr⟩
      exact hK u w' γ' Φ' hok hr
  · rename_i i args ats ho
    split at h
    · rename_i f caps hfn
      have hrel := hs i
      rw [hfn] at hrel
      generalize hvi : a.tmps.getD i undef = vi at hrel
      cases hrel with
      | fn _ cs _ hcl hcc =>
        have hcl2 : (args.toList.map a.eval ++ cs).length = (args.toList.map (ev σ.t) ++ caps.map fun l => AV.ref l 0).length := by simp [hcl]
        have harr : (⟨args.toList.map a.eval ++ cs⟩ : Array Value) = args.map a.eval ++ ⟨cs⟩ := by
          apply Array.ext'
          simp
        have hrel2 : ∀ (j : Nat) v b, (args.toList.map a.eval ++ cs)[j]? = some v → (args.toList.map (ev σ.t) ++ caps.map fun l => AV.ref l 0)[j]? = some b → ARel γ σ.h Φ w v b := by
          intro j v b hv hb
          by_cases hj : j < args.toList.length
          · rw [List.getElem?_append_left (by simpa using hj)] at hv hb
            exact args_rel hs args j v b hv hb
          · rw [List.getElem?_append_right (by simpa using hj)] at hv hb
            simp only [List.length_map] at hv hb
            rw [List.getElem?_map] at hb
            obtain ⟨l, hl, rfl⟩ := Option.map_eq_some_iff.1 hb
            obtain ⟨b', rfl, hg⟩ := hcc _ v l hv hl
            exact .ref b' l 0 hg
        split at h
        · obtain ⟨r', hr', he⟩ := Option.map_eq_some_iff.1 h
          simp only [Prod.mk.injEq] at he
          obtain ⟨rfl, rfl⟩ := he
          obtain ⟨⟨fn, hf, hb, hn⟩, hcalls⟩ := qcall_sound hS hI hcl2 hrel2 hr'
          unfold Oper.wp
          rw [run_call2 ho hvi hf hb hn]
          rw [harr] at hcalls
          refine hcalls.mono ?_
          rintro e w' ⟨u, γ', Φ', rfl, hok, hr⟩
          exact hK u w' γ' Φ' hok hr
        · obtain ⟨⟨fn, hf, hb, hn⟩, hcalls⟩ := ecall_sound hS hI hcl2 hrel2 h
          unfold Oper.wp
          rw [run_call2 ho hvi hf hb hn]
          rw [harr] at hcalls
          refine hcalls.mono ?_
          rintro e w' ⟨u, γ', Φ', rfl, hok, hr⟩
          exact hK u w' γ' Φ' hok hr
    · cases h
  · rename_i args ats ho
    obtain ⟨r', hr', he⟩ := Option.map_eq_some_iff.1 h
    simp only [Prod.mk.injEq] at he
    obtain ⟨rfl, rfl⟩ := he
    obtain ⟨u, hu, hrel⟩ := qmm_sound (E := E) false (vs := args.toList.map a.eval) (by simp) (args_rel hs args) hr' ats o.type
    have harr : (⟨args.toList.map a.eval⟩ : Array Value) = args.map a.eval := by
      apply Array.ext'
      simp
    rw [harr] at hu
    refine wp_value ?_ (hK u w γ Φ (.refl hI) hrel)
    unfold execOp
    simp only [ho, resolve, bind, Sem.run_bind']
    simp only [pure, Sem.run_pure', Result.andThen_ok, invoke, builtin]
    exact run_vval (by simpa using hu)
  · rename_i args ats ho
    obtain ⟨r', hr', he⟩ := Option.map_eq_some_iff.1 h
    simp only [Prod.mk.injEq] at he
    obtain ⟨rfl, rfl⟩ := he
    obtain ⟨u, hu, hrel⟩ := qmm_sound (E := E) true (vs := args.toList.map a.eval) (by simp) (args_rel hs args) hr' ats o.type
    have harr : (⟨args.toList.map a.eval⟩ : Array Value) = args.map a.eval := by
      apply Array.ext'
      simp
    rw [harr] at hu
    refine wp_value ?_ (hK u w γ Φ (.refl hI) hrel)
    unfold execOp
    simp only [ho, resolve, bind, Sem.run_bind']
    simp only [pure, Sem.run_pure', Result.andThen_ok, invoke, builtin]
    exact run_vval (by simpa using hu)
  · rename_i ty ps ho
    split at h
    · obtain ⟨r', hr', he⟩ := Option.map_eq_some_iff.1 h
      simp only [Prod.mk.injEq] at he
      obtain ⟨rfl, rfl⟩ := he
      obtain ⟨u, hu, hrel⟩ := qbuildA_sound (γ := γ) (H := σ.h) (Φ := Φ) (w := w) (vparts := ps.map fun (p : Nat × Operand) => (p.1, a.eval p.2)) (by simp) (parts_rel hs ps) hr'
      refine wp_value ?_ (hK u w γ Φ (.refl hI) hrel)
      unfold execOp
      simp only [ho]
      exact run_vval hu
    · refine quiet ?_
      rw [ho]
      exact h
  · rename_i ty x ho
    exact one (s := Instr.range ty (a.eval x)) (fun W => by unfold execOp; simp only [ho] <;> rfl) (erange_sound hI (ev_rel hs x) h)
  · rename_i x s ho
    exact one (s := Instr.next (a.eval x) s o.type) (fun W => by unfold execOp; simp only [ho] <;> rfl) (enext_sound hI (ev_rel hs x) h)
  · rename_i op ty x y yt ho
    split at h
    · rename_i hy
      obtain ⟨r', hr', he⟩ := Option.map_eq_some_iff.1 h
      simp only [Prod.mk.injEq] at he
      obtain ⟨rfl, rfl⟩ := he
      have hyn := isNil_eq hy
      subst hyn
      obtain ⟨u, hu, hrel⟩ := qnil2_sound op ty x (ev_rel hs x) hr'
      refine wp_value ?_ (hK u w γ Φ (.refl hI) hrel)
      unfold execOp
      simp only [ho]
      exact run_vval hu
    split at h
    · rename_i ks hks
      obtain ⟨r', hr', he⟩ := Option.map_eq_some_iff.1 h
      simp only [Prod.mk.injEq] at he
      obtain ⟨rfl, rfl⟩ := he
      obtain ⟨u, hu, hrel⟩ := qeq_sound (x := x) (y := y) hks (ev_rel hs x) (ev_rel hs y) hr'
      refine wp_value ?_ (hK u w γ Φ (.refl hI) hrel)
      unfold execOp
      simp only [ho]
      exact run_vval hu
    · refine quiet ?_
      rw [ho]
      exact h
  · exact quiet h

end
end Go.Abs
