/- The abstract machine, part 43: arguments of types that hold themselves (as the newer A24, A25 have it). -/
import Derived.Test.YthoacjgjmlgaoaaDoorA25
namespace Go.Abs
open Go.RowKit Go.ChangeShapes Go.WideShapes Go.Deep

theorem Typed.mono {P : Program} : ∀ {n : Nat} {t : TypeId} {p : PV}, Typed P n t p → Typed P (n + 1) t p
  | 0, _, _, h => by cases h
  | n + 1, t, p, h => by
    rw [Typed] at h ⊢
    split at h
    · exact h
    · exact h
    · exact h
    · obtain ⟨xs, a, b, c⟩ := h
      exact ⟨xs, a, b, fun x hx => ⟨(c x hx).1.mono, (c x hx).2⟩⟩
    · obtain ⟨qs, a, b, c⟩ := h
      exact ⟨qs, a, b, fun i f q hf hq => (c i f q hf hq).mono⟩
    · cases h

theorem Typed.up {P : Program} {n : Nat} {t : TypeId} {p : PV} (h : Typed P n t p) : ∀ k, Typed P (n + k) t p
  | 0 => h
  | k + 1 => (h.up k).mono

/-- The same for types that hold themselves: a list of types that is closed. -/
def suppS (P : Program) (S : List TypeId) : Bool := S.all fun t => match P.underlying t with
  | some .bool => P.cellsOf t == 1
  | some (.int _) => P.cellsOf t == 1
  | some .string => P.cellsOf t == 1
  | some (.slice e) => P.cellsOf t == 1 && (S.contains e && P.cellsOf e != 0)
  | some (.struct fs) => contig P fs.toList 0 == some (P.cellsOf t) && fs.toList.all fun f => S.contains f.type
  | _ => false

section
variable {H : Type} {enc : TypeId × Value → H} {P : Program} {w : World}

theorem fields_repG {base : Nat} {held : Bool} (cs : List Value) (fuel : Nat) (R : TypeId → PV → Prop) :
    ∀ (fs : List Field) (o e : Nat) (ys : List (DataW H × List MemPlace)), contig P fs o = some e →
      (∀ f ∈ fs, ∀ (cs : List Value) (x : DataW H × List MemPlace), DataW.trod enc P w base (fun _ => true) held fuel f.type cs = some x → ∃ p, CellsRel (Low w) w cs p.cells ∧ R f.type p ∧ cs.length = P.cellsOf f.type) → e = cs.length → ys.length = fs.length →
      (∀ (i : Nat) (f : Field), fs[i]? = some f → DataW.trod enc P w base (fun _ => true) held fuel f.type ((cs.drop f.offset).take (P.cellsOf f.type)) = ys[i]?) →
      ∃ qs : List PV, qs.length = fs.length ∧ (∀ (i : Nat) f q, fs[i]? = some f → qs[i]? = some q → R f.type q) ∧ CellsRel (Low w) w (cs.drop o) (qs.flatMap PV.cells)
  | [], o, e, ys, hc, _, he, _, _ => by
    simp only [contig, Option.some.injEq] at hc
    refine ⟨[], rfl, fun i f q hf => by simp at hf, ?_⟩
    rw [List.drop_eq_nil_of_le (by omega)]
    exact ⟨rfl, fun c hc => by simp at hc, fun k v c hv => by simp at hv⟩
  | f :: fs, o, e, ys, hc, hs, he, hl, ht => by
    simp only [contig] at hc
    split at hc
    · rename_i ho
      cases ys with
      | nil => simp at hl
      | cons y ys =>
        have h0 := ht 0 f rfl
        simp only [List.getElem?_cons_zero] at h0
        obtain ⟨q, hq, hqt, hql⟩ := hs f List.mem_cons_self _ y h0
        obtain ⟨qs, h1, h2, h3⟩ := fields_repG cs fuel R fs (o + P.cellsOf f.type) e ys hc (fun g hg => hs g (List.mem_cons_of_mem _ hg)) he (by simpa using hl) (fun i g hg => by
          have := ht (i + 1) g (by simpa using hg)
          simpa using this)
        refine ⟨q :: qs, by simp [h1], fun i g r hg hr => ?_, ?_⟩
        · cases i with
          | zero => simp only [List.getElem?_cons_zero, Option.some.injEq] at hg hr; subst hg hr; exact hqt
          | succ i => rw [List.getElem?_cons_succ] at hg hr; exact h2 i g r hg hr
        · have hsplit : cs.drop o = (cs.drop f.offset).take (P.cellsOf f.type) ++ cs.drop (o + P.cellsOf f.type) := by
            rw [← ho, ← List.drop_drop, List.take_append_drop]
          rw [hsplit, List.flatMap_cons]
          exact cellsRel_append hq h3
    · cases hc

theorem slice_rep {base : Nat} {e : TypeId} {a : Addr} {len cap : Nat} (Q : PV → Prop) (hne : ¬ P.cellsOf e = 0) (hlen : len ≤ cap) (hcap : cap ≤ maxLen)
    (hel : ∀ i, i < len → ∃ cs', w.cells? base (a.add (i * P.cellsOf e)) (P.cellsOf e) = some cs' ∧ ∃ p : PV, CellsRel (Low w) w cs' p.cells ∧ Q p ∧ cs'.length = P.cellsOf e) :
    ∃ xs : List PV, CellsRel (Low w) w [.slice (some a) len cap] (PV.slice xs).cells ∧ xs.length ≤ maxLen ∧ ∀ y ∈ xs, Q y ∧ y.cells.length = P.cellsOf e := by
    have hp : ∀ i, ∃ p : PV, i < len → ∃ cs', w.cells? base (a.add (i * P.cellsOf e)) (P.cellsOf e) = some cs' ∧ CellsRel (Low w) w cs' p.cells ∧ Q p ∧ cs'.length = P.cellsOf e := by
      intro i
      by_cases hi : i < len
      · obtain ⟨cs', hc', ht'⟩ := hel i hi
        obtain ⟨p, h1, h2, h3⟩ := ht'
        exact ⟨p, fun _ => ⟨cs', hc', h1, h2, h3⟩⟩
      · exact ⟨.nil, fun h => absurd h hi⟩
    have ⟨f, hf⟩ := Classical.axiomOfChoice hp
    have hlen' : ((List.range len).map f).length = len := by simp
    have hmem : ∀ y ∈ (List.range len).map f, Q y ∧ y.cells.length = P.cellsOf e := by
      intro y hy
      obtain ⟨i, hi, rfl⟩ := List.mem_map.1 hy
      obtain ⟨cs', _, h1, h2, h3⟩ := hf i (List.mem_range.1 hi)
      exact ⟨h2, by rw [← h1.1, h3]⟩
    refine ⟨(List.range len).map f, ?_, by rw [hlen']; omega, hmem⟩
    by_cases h0 : len = 0
    · subst h0
      exact cellsRel_one rfl (.sliceAny a cap hcap)
    · have hcell : ∀ i, i < len → ∀ j, j < P.cellsOf e → ∃ v c, w.cell? ⟨a.block, a.off + (i * P.cellsOf e + j), none⟩ = some v ∧ (f i).cells[j]? = some c ∧ c.one = true ∧ Rep (Low w) w v c ∧ a.block < w.heap.size ∧ a.spot = none := by
        intro i hi j hj
        obtain ⟨cs', hc', h1, h2, h3⟩ := hf i hi
        obtain ⟨_, hcl, hat⟩ := World.cells?_some hc'
        have hv : cs'[j]? = some (cs'[j]'(by omega)) := List.getElem?_eq_getElem (by omega)
        have hjl : j < (f i).cells.length := by rw [← h1.1]; omega
        have hcv := hat j hj
        rw [hv] at hcv
        have hsp : a.spot = none := by
          have hz : 0 < len := by omega
          obtain ⟨cs0, hc0, _⟩ := hf 0 hz
          obtain ⟨_, hcl0, hat0⟩ := World.cells?_some hc0
          have := hat0 0 (by omega)
          rw [List.getElem?_eq_getElem (by omega)] at this
          have h' := (cell_lt this).2
          simpa [Addr.add] using h'
        have hab : (a.add (i * P.cellsOf e)).add j = ⟨a.block, a.off + (i * P.cellsOf e + j), none⟩ := by
          rw [Go.Deep.add_add]
          unfold Addr.add
          split
          · rename_i h
            rw [h, ← hsp]
            rfl
          · rfl
        rw [hab] at hcv
        refine ⟨_, _, hcv, List.getElem?_eq_getElem hjl, h1.2.1 _ (List.getElem_mem hjl), h1.2.2 j _ _ hv (List.getElem?_eq_getElem hjl), ?_, hsp⟩
        exact (cell_lt hcv).1
      have hpos : 0 < P.cellsOf e := by omega
      obtain ⟨_, _, _, _, _, _, hblk, hsp⟩ := hcell 0 (by omega) 0 hpos
      have ha : a = ⟨a.block, a.off, none⟩ := by rw [← hsp]
      rw [ha]
      have hsz : ∀ y ∈ (List.range len).map f, y.cells.length = P.cellsOf e := fun y hy => (hmem y hy).2
      have hfl := flat_length hsz
      rw [hlen'] at hfl
      have hat : ∀ k, k < (flat ((List.range len).map f)).length → ∃ v c, w.cell? ⟨a.block, a.off + k, none⟩ = some v ∧ (flat ((List.range len).map f))[k]? = some c ∧ c.one = true ∧ Rep (Low w) w v c := by
        intro k hk
        rw [hfl] at hk
        have hdiv : k / P.cellsOf e < len := Nat.div_lt_of_lt_mul (by rw [Nat.mul_comm]; exact hk)
        have hmod := Nat.mod_lt k hpos
        obtain ⟨v, c, h1, h2, h3, h4, _, _⟩ := hcell _ hdiv _ hmod
        have he : k / P.cellsOf e * P.cellsOf e + k % P.cellsOf e = k := by rw [Nat.mul_comm]; exact Nat.div_add_mod _ _
        rw [he] at h1
        refine ⟨v, c, h1, ?_, h3, h4⟩
        have := flat_at hsz (k / P.cellsOf e) (k % P.cellsOf e) (f (k / P.cellsOf e)) (by rw [List.getElem?_map, List.getElem?_range hdiv]; rfl) hmod
        rw [he] at this
        rw [this]
        exact h2
      refine cellsRel_one rfl (.slice a.block a.off len cap (P.cellsOf e) _ (fun k => (w.cell? ⟨a.block, a.off + k, none⟩).getD undef) hlen' hlen hcap hsz (fun c hc => ?_) (fun k hk => ?_) (fun k c hc => ?_))
      · obtain ⟨k, hk, rfl⟩ := List.getElem_of_mem hc
        obtain ⟨v, c', _, h2, h3, _⟩ := hat k hk
        rw [List.getElem?_eq_getElem hk] at h2
        injection h2 with h2
        rw [h2]
        exact h3
      · obtain ⟨v, c', h1, _⟩ := hat k hk
        exact ⟨hblk, by rw [h1]; rfl⟩
      · have hk := (List.getElem?_eq_some_iff.1 hc).1
        obtain ⟨v, c', h1, h2, _, h4⟩ := hat k hk
        rw [hc] at h2
        injection h2 with h2
        subst h2
        rw [h1]
        exact h4

theorem trod_repS {base : Nat} {held : Bool} {S : List TypeId} (hS : suppS P S = true) : ∀ (n : Nat) (t : TypeId) (cs : List Value) (x : DataW H × List MemPlace), t ∈ S → DataW.trod enc P w base (fun _ => true) held n t cs = some x →
    ∃ p, CellsRel (Low w) w cs p.cells ∧ Typed P n t p ∧ cs.length = P.cellsOf t := by
  intro n
  induction n with
  | zero => intro t cs x _ h; simp [DataW.trod] at h
  | succ n ih =>
    intro t cs x hm ht
    have hs := List.all_eq_true.1 hS t hm
    split at hs
    · rename_i hu
      simp only [Typed, hu]
      obtain ⟨b, rfl, _⟩ := DataW.trod_bool hu ht
      exact ⟨.bool b, cellsRel_one rfl (.bool b), ⟨b, rfl⟩, by simp at hs; simp [hs]⟩
    · rename_i k hu
      simp only [Typed, hu]
      obtain ⟨m, rfl, _, hw⟩ := DataW.trod_int hu ht
      exact ⟨.int k m, cellsRel_one rfl (.int k m), ⟨m, rfl, hw⟩, by simp at hs; simp [hs]⟩
    · rename_i hu
      simp only [Typed, hu]
      obtain ⟨s, rfl, _, hl⟩ := DataW.trod_string hu ht
      refine ⟨.str s.data.toList, cellsRel_one rfl (.str s.data.toList), ⟨s.data.toList, rfl, ?_⟩, by simp at hs; simp [hs]⟩
      simpa using hl
    · rename_i e hu
      simp only [Typed, hu]
      simp only [Bool.and_eq_true, beq_iff_eq, bne_iff_ne, ne_eq, List.contains_iff_mem] at hs
      obtain ⟨hc1, hse, hne⟩ := hs
      rcases DataW.trod_slice hu ht with ⟨rfl, _⟩ | ⟨a, len, cap, elems, rest, k, hk, rfl, rfl, hb, hlen, hcap, hel, hat, _, _⟩
      · exact ⟨.slice [], cellsRel_one rfl .sliceNil, ⟨[], rfl, Nat.zero_le _, fun x hx => by cases hx⟩, by simp [hc1]⟩
      · obtain rfl : n = k := Nat.succ.inj hk
        obtain ⟨xs, h1, h2, h3⟩ := slice_rep (base := base) (Typed P n e) hne hlen hcap (fun i hi => by
          have h := hat i hi
          rw [List.getElem?_eq_getElem (by omega)] at h
          obtain ⟨cs', hc', ht'⟩ := Option.bind_eq_some_iff.1 h
          exact ⟨cs', hc', ih e cs' _ hse ht'⟩)
        exact ⟨.slice xs, h1, ⟨xs, rfl, h2, h3⟩, by simp [hc1]⟩
    · rename_i fs hu
      simp only [Typed, hu]
      simp only [Bool.and_eq_true, beq_iff_eq] at hs
      obtain ⟨ys, k, hk, _, hcl, hyl, hfs⟩ := DataW.trod_struct hu ht
      obtain rfl : n = k := Nat.succ.inj hk
      obtain ⟨qs, h1, h2, h3⟩ := fields_repG cs n (Typed P n) fs.toList 0 _ ys hs.1 (fun f hf cs x h => ih f.type cs x (by have := List.all_eq_true.1 hs.2 f hf; rwa [List.contains_iff_mem] at this) h) hcl.symm (by simpa using hyl) (fun i f hf => hfs i f (by simpa using hf))
      refine ⟨.agg (qs.flatMap PV.cells), ?_, ⟨qs, rfl, by simpa using h1, fun i f q hf hq => h2 i f q (by simpa using hf) hq⟩, hcl⟩
      simpa [PV.cells] using h3
    · cases hs

/-- An argument: from its cells. -/
theorem param_cells {n : Nat} {t : TypeId} {v : Value} {r : Reach} {b : Nat} {p : PV} (hs : (match P.underlying t with | some .bool | some (.int _) | some .string | some (.slice _) | some (.struct _) => true | _ => false) = true) (hv : Value.okWide P w r b t v) (h1 : CellsRel (Low w) w v.cells.toList p.cells) (h2 : Typed P n t p) :
    ∃ p, Rep (Low w) w v p ∧ Typed P n t p := by
  cases n with
  | zero => cases h2
  | succ n =>
    have one : ∀ p : PV, p.one = true → v.cells = #[v] → CellsRel (Low w) w v.cells.toList p.cells → Rep (Low w) w v p := by
      intro p hp hc hr
      have hpc : p.cells = [p] := by cases p <;> first | rfl | simp [PV.one] at hp
      rw [hc, hpc] at hr
      exact hr.2.2 0 v p rfl rfl
    simp only [Typed] at h2
    split at hs
    · rename_i hu
      rw [hu] at h2
      obtain ⟨b, rfl⟩ := okWide_bool hu hv
      obtain ⟨b', rfl⟩ := h2
      exact ⟨_, one _ rfl rfl h1, by simp only [Typed, hu]; exact ⟨_, rfl⟩⟩
    · rename_i k hu
      rw [hu] at h2
      obtain ⟨b, rfl⟩ := okWide_int hu hv
      obtain ⟨b', rfl, hw⟩ := h2
      exact ⟨_, one _ rfl rfl h1, by simp only [Typed, hu]; exact ⟨_, rfl, hw⟩⟩
    · rename_i hu
      rw [hu] at h2
      obtain ⟨b, rfl⟩ := okWide_string hu hv
      obtain ⟨b', rfl, hw⟩ := h2
      exact ⟨_, one _ rfl rfl h1, by simp only [Typed, hu]; exact ⟨_, rfl, hw⟩⟩
    · rename_i e hu
      rw [hu] at h2
      obtain ⟨a, len, cap, rfl⟩ := okWide_slice hu hv
      obtain ⟨xs, rfl, hw⟩ := h2
      exact ⟨_, one _ rfl rfl h1, by simp only [Typed, hu]; exact ⟨_, rfl, hw⟩⟩
    · rename_i fs hu
      rw [hu] at h2
      obtain ⟨cs, rfl, _⟩ := okWide_struct hu hv
      obtain ⟨qs, rfl, hq⟩ := h2
      obtain ⟨l⟩ := cs
      exact ⟨_, .agg l _ h1.1 h1.2.1 h1.2.2, by simp only [Typed, hu]; exact ⟨_, rfl, hq⟩⟩
    · cases hs

/-- An argument of a type that may hold itself. -/
theorem param_repS {S : List TypeId} (hS : suppS P S = true) {t : TypeId} {v : Value} {d : DataW H} {ps : List MemPlace} {r : Reach} {b : Nat} (hs : t ∈ S) (hv : Value.okWide P w r b t v) (h : DataW.Trod enc P w 0 (fun _ => true) true t v d ps) :
    ∃ p, Rep (Low w) w v p ∧ ∃ n, Typed P n t p := by
  obtain ⟨fuel, hf⟩ := h
  obtain ⟨p, h1, h2, h3⟩ := trod_repS hS fuel t _ _ hs hf
  obtain ⟨q, a, b⟩ := param_cells (by
    have := List.all_eq_true.1 hS t hs
    split at this <;> first | (simp only; done) | (exact absurd this (by decide))) hv h1 h2
  exact ⟨q, a, fuel, b⟩


end

section
variable {H : Type} {enc : TypeId × Value → H}

theorem trodAll_repsT {P : Program} {w : World} {r : Reach} {b : Nat} (TY : TypeId → PV → Prop) : ∀ {ts : List TypeId} {vs : List Value} {ds : List (DataW H)} {ps : List MemPlace},
    (∀ t ∈ ts, ∀ (v : Value) (d : DataW H) (ps : List MemPlace), Value.okWide P w r b t v → DataW.Trod enc P w 0 (fun _ => true) true t v d ps → ∃ p, Rep (Low w) w v p ∧ TY t p) → (∀ (i : Nat) t v, ts[i]? = some t → vs[i]? = some v → Value.okWide P w r b t v) →
    DataW.TrodAll enc P w 0 (fun _ => true) true ts vs ds ps → ∃ qs : List PV, vs.length = qs.length ∧ qs.length = ts.length ∧ ds.length = ts.length ∧ (∀ (i : Nat) v p, vs[i]? = some v → qs[i]? = some p → Rep (Low w) w v p) ∧ ∀ (i : Nat) t p, ts[i]? = some t → qs[i]? = some p → TY t p
  | [], [], [], _, _, _, _ => ⟨[], rfl, rfl, rfl, fun i v p h => by simp at h, fun i t p h => by simp at h⟩
  | t :: ts, v :: vs, d :: ds, ps, hs, hv, h => by
    obtain ⟨p, q, h1, h2, _⟩ := h
    obtain ⟨x, hx1, hx2⟩ := hs t (by simp) v d p (hv 0 t v rfl rfl) h1
    obtain ⟨qs, e1, e2, e3, e4, e5⟩ := trodAll_repsT TY (fun t ht => hs t (by simp [ht])) (fun i t v ht hv' => hv (i + 1) t v (by simpa using ht) (by simpa using hv')) h2
    refine ⟨x :: qs, by simp [e1], by simp [e2], by simp [e3], fun i v p hv hp => ?_, fun i t p ht hp => ?_⟩
    · cases i with
      | zero => simp only [List.getElem?_cons_zero, Option.some.injEq] at hv hp; subst hv hp; exact hx1
      | succ i => rw [List.getElem?_cons_succ] at hv hp; exact e4 i v p hv hp
    · cases i with
      | zero => simp only [List.getElem?_cons_zero, Option.some.injEq] at ht hp; subst ht hp; exact hx2
      | succ i => rw [List.getElem?_cons_succ] at ht hp; exact e5 i t p ht hp
  | [], [], _ :: _, _, _, _, h => h.elim
  | [], _ :: _, _, _, _, _, h => h.elim
  | _ :: _, [], _, _, _, _, h => h.elim
  | _ :: _, _ :: _, [], _, _, _, h => h.elim

theorem liftedT {E : Env} {C : Checked} (hE : E.P = C.prog) {os : Os} {f : FuncId} {fn : Func} {s : ChangeSpec} {conds : List PathCond} {apart fresh handsOn again : Bool} {X : World → Array Value → Prop} (TY : TypeId → PV → Prop) {tb : TypeId}
    (own : ownKnob C.prog.godebug = none) (started : os.Started) (noInit : C.prog.inits.idxOf? f = none) (hfn : C.prog.funcs[f]? = some fn) (hlo : laidOutB C.prog = true)
    (hvars : s.vars = []) (hspec : ∀ ds : List (DataW H), ds.length = fn.params.size → s.fn H ds = { results := [.lit (.bool true)], args := ds })
    (hres : fn.resultTypes = #[tb]) (hub : C.prog.underlying tb = some .bool)
    (hT : ∀ t ∈ fn.params.toList, ∀ (w : World) (r : Reach) (b : Nat) (v : Value) (d : DataW H) (ps : List MemPlace), Value.okWide C.prog w r b t v → DataW.Trod enc C.prog w 0 (fun _ => true) true t v d ps → ∃ p, Rep (Low w) w v p ∧ TY t p)
    (hpar : fn.params.toList.all (fun t => C.prog.readableRec t && decide (t < C.prog.types.size)) = true)
    (hG : ∀ W : World, W.ShapedOpen C.prog → (∃ a, X W.memory a) → E.GI W ∧ E.gN ≤ W.heap.size)
    (hgood : ∀ ps : List PV, ps.length = fn.params.size → (∀ (i : Nat) t p, fn.params[i]? = some t → ps[i]? = some p → TY t p) → Good E f (ps.map AV.pv) [] [.pv (.bool true)] [])
    (witness : ∃ (w : World) (tape : Tape) (i : Input), w.os = os ∧ (w.forCall tape i).Shaped C.prog ∧ i.vars = [] ∧ Input.okWide C.prog (w.forCall tape i) .any w.heap.size f i ∧
      ((s.pre enc C.prog fn conds apart (w.forCall tape i).memory i.args ∧ X (w.forCall tape i).memory i.args) ∧ sizedMet enc C.prog fn (OpenSpec.ofChange s) apart (w.forCall tape i).memory i.args) ∧ ({} : Assume).holds C.prog (lone (Frame.enter C.prog f i.args .normal) [] (w.forCall tape i))) :
    ReturnsInHanded {} C os f .any (fun w args => (s.pre enc C.prog fn conds apart w args ∧ X w args) ∧ sizedMet enc C.prog fn (OpenSpec.ofChange s) apart w args) (s.post enc C.prog fn apart fresh handsOn again) := by
  refine returnsInHanded_of_calls own started noInit witness ?_
  intro w tape i _ hsh _ hok hpre _
  obtain ⟨_, _, _, fn', hfn', _, _, _, hsz, hval⟩ := hok
  have e : fn' = fn := Option.some.inj (hfn'.symm.trans hfn)
  subst e
  obtain ⟨⟨⟨ds, gs, before, hw, _⟩, hX⟩, _⟩ := hpre
  have hw' := DataW.Whole.of_heap (w' := w.forCall tape i) (by rfl) hw
  have hread : ∀ t ∈ fn'.params.toList, C.prog.readableRec t = true ∧ t < C.prog.types.size := fun t ht => by
    have := List.all_eq_true.1 hpar t ht
    rw [Bool.and_eq_true, decide_eq_true_eq] at this
    exact this
  have hw2 := hw'
  obtain ⟨p, q, hA, hV, rfl, _, _⟩ := hw'
  obtain ⟨qs, e1, e2, e3, e4, e5⟩ := trodAll_repsT TY (fun t ht v d ps => hT t ht _ _ _ v d ps) (fun i t v ht hv => hval i t v (by simpa using ht) (by simpa using hv)) hA
  rw [hvars] at hV
  obtain ⟨hgs, hq⟩ : gs = [] ∧ q = [] := by
    cases gs with
    | nil => exact ⟨rfl, hV⟩
    | cons g gs => exact hV.elim
  subst hgs hq
  obtain ⟨hgi, hgn⟩ := hG _ hsh ⟨_, hX⟩
  have hcall := Good.calls (hgood qs (by simpa using e2) (fun i t p ht hp => e5 i t p (by simpa using ht) hp)) (W := w.forCall tape i) (vs := i.args.toList) hgi hgn e1 e4
  rw [hE] at hcall
  refine Calls.mono hcall fun e W' ⟨he, hb⟩ => ?_
  subst he
  have hlen : ds.length = fn'.params.size := by simpa using e3
  have hsp : s.fn H (ds ++ []) = { results := [.lit (.bool true)], args := ds } := by
    rw [List.append_nil]
    exact hspec ds hlen
  refine ChangeSpec.post_blind (post_below (pa := p) (pv := []) hw2 (fun b sp hd => ?_) (fun sp hspb => ?_) (fun sp _ => ?_) rfl hb (ok_one hres rfl (okWide_bool_mk hub _)))
  · rw [hsp, hres]
    exact trodAll_mk1 (shut_bool hub _)
  · rw [hsp]
    refine trodAll_stays hlo hread hA (fun x hx => hb.same ?_) (fun x hx => hspb x (by simp [hx]))
    exact hw2.lt x (by simp [hx])
  · rw [hsp, hvars]
    exact rfl

theorem liftedS {E : Env} {C : Checked} (hE : E.P = C.prog) {os : Os} {f : FuncId} {fn : Func} {s : ChangeSpec} {conds : List PathCond} {apart fresh handsOn again : Bool} {X : World → Array Value → Prop} (S : List TypeId) {tb : TypeId}
    (own : ownKnob C.prog.godebug = none) (started : os.Started) (noInit : C.prog.inits.idxOf? f = none) (hfn : C.prog.funcs[f]? = some fn) (hlo : laidOutB C.prog = true)
    (hvars : s.vars = []) (hspec : ∀ ds : List (DataW H), ds.length = fn.params.size → s.fn H ds = { results := [.lit (.bool true)], args := ds })
    (hres : fn.resultTypes = #[tb]) (hub : C.prog.underlying tb = some .bool)
    (hS : suppS C.prog S = true) (hpar : fn.params.toList.all (fun t => S.contains t && (C.prog.readableRec t && decide (t < C.prog.types.size))) = true)
    (hG : ∀ W : World, W.ShapedOpen C.prog → (∃ a, X W.memory a) → E.GI W ∧ E.gN ≤ W.heap.size)
    (hgood : ∀ ps : List PV, ps.length = fn.params.size → (∀ (i : Nat) t p, fn.params[i]? = some t → ps[i]? = some p → ∃ n, Typed C.prog n t p) → Good E f (ps.map AV.pv) [] [.pv (.bool true)] [])
    (witness : ∃ (w : World) (tape : Tape) (i : Input), w.os = os ∧ (w.forCall tape i).Shaped C.prog ∧ i.vars = [] ∧ Input.okWide C.prog (w.forCall tape i) .any w.heap.size f i ∧
      ((s.pre enc C.prog fn conds apart (w.forCall tape i).memory i.args ∧ X (w.forCall tape i).memory i.args) ∧ sizedMet enc C.prog fn (OpenSpec.ofChange s) apart (w.forCall tape i).memory i.args) ∧ ({} : Assume).holds C.prog (lone (Frame.enter C.prog f i.args .normal) [] (w.forCall tape i))) :
    ReturnsInHanded {} C os f .any (fun w args => (s.pre enc C.prog fn conds apart w args ∧ X w args) ∧ sizedMet enc C.prog fn (OpenSpec.ofChange s) apart w args) (s.post enc C.prog fn apart fresh handsOn again) :=
  liftedT hE (fun t p => ∃ n, Typed C.prog n t p) own started noInit hfn hlo hvars hspec hres hub
    (fun t ht w r b v d ps hv h => param_repS hS (by
      have := List.all_eq_true.1 hpar t ht
      rw [Bool.and_eq_true, List.contains_iff_mem] at this
      exact this.1) hv h)
    (List.all_eq_true.2 fun t ht => by
      have := List.all_eq_true.1 hpar t ht
      rw [Bool.and_eq_true] at this
      exact this.2) hG hgood witness


end
end Go.Abs
