import Derived.Test.YtkiajanddmgmnaaGreatDoorA23
import Derived.ProofKit
import Derived.Deep.Slices
/- The abstract machine, part 24: an argument's reading as a pure value. -/
namespace Go.Abs
open Go.RowKit Go.ChangeShapes Go.WideShapes Go.Deep

/-- What a value of a type looks like. -/
def Typed (P : Program) : Nat → TypeId → PV → Prop
  | 0, _, _ => False
  | n + 1, t, p => match P.underlying t with
    | some .bool => ∃ b, p = .bool b
    | some (.int k) => ∃ m, p = .int k m ∧ (Lit.int k m).wf = true
    | some .string => ∃ s, p = .str s ∧ s.length ≤ maxLen
    | some (.slice e) => ∃ xs, p = .slice xs ∧ xs.length ≤ maxLen ∧ ∀ x ∈ xs, Typed P n e x ∧ x.cells.length = P.cellsOf e
    | some (.struct fs) => ∃ qs : List PV, p = .agg (qs.flatMap PV.cells) ∧ qs.length = fs.size ∧ ∀ (i : Nat) f q, fs[i]? = some f → qs[i]? = some q → Typed P n f.type q
    | _ => False

theorem Typed.mono {P : Program} : ∀ {n : Nat} {t : TypeId} {p : PV}, Typed P n t p → Typed P (n + 1) t p
  | 0, _, _, h => by cases h
  | n + 1, t, p, h => by
    rw [Typed] at h ⊢
    split at h
    · exact h
    · exact h
    · exact h
    · obtain ⟨xs, a, b, c⟩ := h
      exact ⟨xs, a, b, fun x hx => ⟨(c x hx).1.mono, (c x hx).2⟩⟩
    · obtain ⟨qs, a, b, c⟩ := h
      exact ⟨qs, a, b, fun i f q hf hq => (c i f q hf hq).mono⟩
    · cases h

theorem Typed.up {P : Program} {n : Nat} {t : TypeId} {p : PV} (h : Typed P n t p) : ∀ k, Typed P (n + k) t p
  | 0 => h
  | k + 1 => (h.up k).mono

/-- Fields one after the other, from an offset: where they end. -/
def contig (P : Program) : List Field → Nat → Option Nat
  | [], o => some o
  | f :: fs, o => if f.offset = o then contig P fs (o + P.cellsOf f.type) else none

/-- The types whose values we read. -/
def supp (P : Program) : Nat → TypeId → Bool
  | 0, _ => false
  | n + 1, t => match P.underlying t with
    | some .bool => P.cellsOf t == 1
    | some (.int _) => P.cellsOf t == 1
    | some .string => P.cellsOf t == 1
    | some (.slice e) => P.cellsOf t == 1 && (supp P n e && P.cellsOf e != 0)
    | some (.struct fs) => contig P fs.toList 0 == some (P.cellsOf t) && fs.toList.all fun f => supp P n f.type
    | _ => false

/-- The same for types that hold themselves: a list of types that is closed. -/
def suppS (P : Program) (S : List TypeId) : Bool := S.all fun t => match P.underlying t with
  | some .bool => P.cellsOf t == 1
  | some (.int _) => P.cellsOf t == 1
  | some .string => P.cellsOf t == 1
  | some (.slice e) => P.cellsOf t == 1 && (S.contains e && P.cellsOf e != 0)
  | some (.struct fs) => contig P fs.toList 0 == some (P.cellsOf t) && fs.toList.all fun f => S.contains f.type
  | _ => false

section
variable {H : Type} {enc : TypeId × Value → H} {P : Program} {w : World}

/-- All cells of the heap. -/
def Low (w : World) (b _ : Nat) : Prop := b < w.heap.size

theorem cell_lt {a : Addr} {v : Value} (h : w.cell? a = some v) : a.block < w.heap.size ∧ a.spot = none := by
  unfold World.cell? at h
  split at h
  · rename_i hb
    refine ⟨(Array.getElem?_eq_some_iff.1 hb).1, ?_⟩
    split at h
    · cases h
    · rename_i hs
      simpa using hs
  · cases h

theorem cellsRel_one {Φ : Nat → Nat → Prop} {v : Value} {p : PV} (h1 : p.one = true) (h : Rep Φ w v p) : CellsRel Φ w [v] p.cells := by
  have hc : p.cells = [p] := by cases p <;> first | rfl | simp [PV.one] at h1
  rw [hc]
  refine ⟨rfl, fun c hc => by simp at hc; subst hc; exact h1, fun k v' c hv hcc => ?_⟩
  cases k with
  | zero => simp only [List.getElem?_cons_zero, Option.some.injEq] at hv hcc; subst hv hcc; exact h
  | succ k => simp at hv

theorem fields_rep {base : Nat} {held : Bool} (cs : List Value) (fuel : Nat) (R : TypeId → PV → Prop) :
    ∀ (fs : List Field) (o e : Nat) (ys : List (DataW H × List MemPlace)), contig P fs o = some e →
      (∀ f ∈ fs, ∀ (cs : List Value) (x : DataW H × List MemPlace), DataW.trod enc P w base (fun _ => true) held fuel f.type cs = some x → ∃ p, CellsRel (Low w) w cs p.cells ∧ R f.type p ∧ cs.length = P.cellsOf f.type) → e = cs.length → ys.length = fs.length →
      (∀ (i : Nat) (f : Field), fs[i]? = some f → DataW.trod enc P w base (fun _ => true) held fuel f.type ((cs.drop f.offset).take (P.cellsOf f.type)) = ys[i]?) →
      ∃ qs : List PV, qs.length = fs.length ∧ (∀ (i : Nat) f q, fs[i]? = some f → qs[i]? = some q → R f.type q) ∧ CellsRel (Low w) w (cs.drop o) (qs.flatMap PV.cells)
  | [], o, e, ys, hc, _, he, _, _ => by
    simp only [contig, Option.some.injEq] at hc
    refine ⟨[], rfl, fun i f q hf => by simp at hf, ?_⟩
    rw [List.drop_eq_nil_of_le (by omega)]
    exact ⟨rfl, fun c hc => by simp at hc, fun k v c hv => by simp at hv⟩
  | f :: fs, o, e, ys, hc, hs, he, hl, ht => by
    simp only [contig] at hc
    split at hc
    · rename_i ho
      cases ys with
      | nil => simp at hl
      | cons y ys =>
        have h0 := ht 0 f rfl
        simp only [List.getElem?_cons_zero] at h0
        obtain ⟨q, hq, hqt, hql⟩ := hs f List.mem_cons_self _ y h0
        obtain ⟨qs, h1, h2, h3⟩ := fields_rep cs fuel R fs (o + P.cellsOf f.type) e ys hc (fun g hg => hs g (List.mem_cons_of_mem _ hg)) he (by simpa using hl) (fun i g hg => by
          have := ht (i + 1) g (by simpa using hg)
          simpa using this)
        refine ⟨q :: qs, by simp [h1], fun i g r hg hr => ?_, ?_⟩
        · cases i with
          | zero => simp only [List.getElem?_cons_zero, Option.some.injEq] at hg hr; subst hg hr; exact hqt
          | succ i => rw [List.getElem?_cons_succ] at hg hr; exact h2 i g r hg hr
        · have hsplit : cs.drop o = (cs.drop f.offset).take (P.cellsOf f.type) ++ cs.drop (o + P.cellsOf f.type) := by
            rw [← ho, ← List.drop_drop, List.take_append_drop]
          rw [hsplit, List.flatMap_cons]
          exact cellsRel_append hq h3
    · cases hc

theorem contig_le {P : Program} : ∀ {fs : List Field} {o e : Nat}, contig P fs o = some e → o ≤ e
  | [], o, e, h => by simp only [contig, Option.some.injEq] at h; omega
  | f :: fs, o, e, h => by
    simp only [contig] at h
    split at h
    · have := contig_le h
      omega
    · cases h

theorem slice_rep {base : Nat} {e : TypeId} {a : Addr} {len cap : Nat} (Q : PV → Prop) (hne : ¬ P.cellsOf e = 0) (hlen : len ≤ cap) (hcap : cap ≤ maxLen)
    (hel : ∀ i, i < len → ∃ cs', w.cells? base (a.add (i * P.cellsOf e)) (P.cellsOf e) = some cs' ∧ ∃ p : PV, CellsRel (Low w) w cs' p.cells ∧ Q p ∧ cs'.length = P.cellsOf e) :
    ∃ xs : List PV, CellsRel (Low w) w [.slice (some a) len cap] (PV.slice xs).cells ∧ xs.length ≤ maxLen ∧ ∀ y ∈ xs, Q y ∧ y.cells.length = P.cellsOf e := by
    have hp : ∀ i, ∃ p : PV, i < len → ∃ cs', w.cells? base (a.add (i * P.cellsOf e)) (P.cellsOf e) = some cs' ∧ CellsRel (Low w) w cs' p.cells ∧ Q p ∧ cs'.length = P.cellsOf e := by
      intro i
      by_cases hi : i < len
      · obtain ⟨cs', hc', ht'⟩ := hel i hi
        obtain ⟨p, h1, h2, h3⟩ := ht'
        exact ⟨p, fun _ => ⟨cs', hc', h1, h2, h3⟩⟩
      · exact ⟨.nil, fun h => absurd h hi⟩
    have ⟨f, hf⟩ := Classical.axiomOfChoice hp
    have hlen' : ((List.range len).map f).length = len := by simp
    have hmem : ∀ y ∈ (List.range len).map f, Q y ∧ y.cells.length = P.cellsOf e := by
      intro y hy
      obtain ⟨i, hi, rfl⟩ := List.mem_map.1 hy
      obtain ⟨cs', _, h1, h2, h3⟩ := hf i (List.mem_range.1 hi)
      exact ⟨h2, by rw [← h1.1, h3]⟩
    refine ⟨(List.range len).map f, ?_, by rw [hlen']; omega, hmem⟩
    by_cases h0 : len = 0
    · subst h0
      exact cellsRel_one rfl (.sliceAny a cap hcap)
    · have hcell : ∀ i, i < len → ∀ j, j < P.cellsOf e → ∃ v c, w.cell? ⟨a.block, a.off + (i * P.cellsOf e + j), none⟩ = some v ∧ (f i).cells[j]? = some c ∧ c.one = true ∧ Rep (Low w) w v c ∧ a.block < w.heap.size ∧ a.spot = none := by
        intro i hi j hj
        obtain ⟨cs', hc', h1, h2, h3⟩ := hf i hi
        obtain ⟨_, hcl, hat⟩ := World.cells?_some hc'
        have hv : cs'[j]? = some (cs'[j]'(by omega)) := List.getElem?_eq_getElem (by omega)
        have hjl : j < (f i).cells.length := by rw [← h1.1]; omega
        have hcv := hat j hj
        rw [hv] at hcv
        have hsp : a.spot = none := by
          have hz : 0 < len := by omega
          obtain ⟨cs0, hc0, _⟩ := hf 0 hz
          obtain ⟨_, hcl0, hat0⟩ := World.cells?_some hc0
          have := hat0 0 (by omega)
          rw [List.getElem?_eq_getElem (by omega)] at this
          have h' := (cell_lt this).2
          simpa [Addr.add] using h'
        have hab : (a.add (i * P.cellsOf e)).add j = ⟨a.block, a.off + (i * P.cellsOf e + j), none⟩ := by
          rw [Go.Deep.add_add]
          unfold Addr.add
          split
          · rename_i h
            rw [h, ← hsp]
            rfl
          · rfl
        rw [hab] at hcv
        refine ⟨_, _, hcv, List.getElem?_eq_getElem hjl, h1.2.1 _ (List.getElem_mem hjl), h1.2.2 j _ _ hv (List.getElem?_eq_getElem hjl), ?_, hsp⟩
        exact (cell_lt hcv).1
      have hpos : 0 < P.cellsOf e := by omega
      obtain ⟨_, _, _, _, _, _, hblk, hsp⟩ := hcell 0 (by omega) 0 hpos
      have ha : a = ⟨a.block, a.off, none⟩ := by rw [← hsp]
      rw [ha]
      have hsz : ∀ y ∈ (List.range len).map f, y.cells.length = P.cellsOf e := fun y hy => (hmem y hy).2
      have hfl := flat_length hsz
      rw [hlen'] at hfl
      have hat : ∀ k, k < (flat ((List.range len).map f)).length → ∃ v c, w.cell? ⟨a.block, a.off + k, none⟩ = some v ∧ (flat ((List.range len).map f))[k]? = some c ∧ c.one = true ∧ Rep (Low w) w v c := by
        intro k hk
        rw [hfl] at hk
        have hdiv : k / P.cellsOf e < len := Nat.div_lt_of_lt_mul (by rw [Nat.mul_comm]; exact hk)
        have hmod := Nat.mod_lt k hpos
        obtain ⟨v, c, h1, h2, h3, h4, _, _⟩ := hcell _ hdiv _ hmod
        have he : k / P.cellsOf e * P.cellsOf e + k % P.cellsOf e = k := by rw [Nat.mul_comm]; exact Nat.div_add_mod _ _
        rw [he] at h1
        refine ⟨v, c, h1, ?_, h3, h4⟩
        have := flat_at hsz (k / P.cellsOf e) (k % P.cellsOf e) (f (k / P.cellsOf e)) (by rw [List.getElem?_map, List.getElem?_range hdiv]; rfl) hmod
        rw [he] at this
        rw [this]
        exact h2
      refine cellsRel_one rfl (.slice a.block a.off len cap (P.cellsOf e) _ (fun k => (w.cell? ⟨a.block, a.off + k, none⟩).getD undef) hlen' hlen hcap hsz (fun c hc => ?_) (fun k hk => ?_) (fun k c hc => ?_))
      · obtain ⟨k, hk, rfl⟩ := List.getElem_of_mem hc
        obtain ⟨v, c', _, h2, h3, _⟩ := hat k hk
        rw [List.getElem?_eq_getElem hk] at h2
        injection h2 with h2
        rw [h2]
        exact h3
      · obtain ⟨v, c', h1, _⟩ := hat k hk
        exact ⟨hblk, by rw [h1]; rfl⟩
      · have hk := (List.getElem?_eq_some_iff.1 hc).1
        obtain ⟨v, c', h1, h2, _, h4⟩ := hat k hk
        rw [hc] at h2
        injection h2 with h2
        subst h2
        rw [h1]
        exact h4

theorem trod_rep {base : Nat} {held : Bool} : ∀ (n : Nat) (t : TypeId) (fuel : Nat) (cs : List Value) (x : DataW H × List MemPlace), supp P n t = true → DataW.trod enc P w base (fun _ => true) held fuel t cs = some x →
    ∃ p, CellsRel (Low w) w cs p.cells ∧ Typed P n t p ∧ cs.length = P.cellsOf t := by
  intro n
  induction n with
  | zero => intro t fuel cs x hs; simp [supp] at hs
  | succ n ih =>
    intro t fuel cs x hs ht
    simp only [supp] at hs
    simp only [Typed]
    split at hs
    · rename_i hu
      obtain ⟨b, rfl, _⟩ := DataW.trod_bool hu ht
      exact ⟨.bool b, cellsRel_one rfl (.bool b), ⟨b, rfl⟩, by simp at hs; simp [hs]⟩
    · rename_i k hu
      obtain ⟨m, rfl, _, hw⟩ := DataW.trod_int hu ht
      exact ⟨.int k m, cellsRel_one rfl (.int k m), ⟨m, rfl, hw⟩, by simp at hs; simp [hs]⟩
    · rename_i hu
      obtain ⟨s, rfl, _, hl⟩ := DataW.trod_string hu ht
      refine ⟨.str s.data.toList, cellsRel_one rfl (.str s.data.toList), ⟨s.data.toList, rfl, ?_⟩, by simp at hs; simp [hs]⟩
      simpa using hl
    · rename_i e hu
      simp only [Bool.and_eq_true, beq_iff_eq, bne_iff_ne, ne_eq] at hs
      obtain ⟨hc1, hse, hne⟩ := hs
      rcases open_slice hu ht with ⟨rfl, _⟩ | ⟨a, len, cap, m, k, D, Pl, rfl, hb, hlen, hcap, hm, _, hel⟩
      · exact ⟨.slice [], cellsRel_one rfl .sliceNil, ⟨[], rfl, Nat.zero_le _, fun x hx => by cases hx⟩, by simp [hc1]⟩
      · simp only [if_true] at hm
        obtain ⟨xs, h1, h2, h3⟩ := slice_rep (base := base) (Typed P n e) hne hlen hcap (fun i hi => by
          obtain ⟨cs', hc', ht'⟩ := hel i (by omega)
          exact ⟨cs', hc', ih e k cs' _ hse ht'⟩)
        exact ⟨.slice xs, h1, ⟨xs, rfl, h2, h3⟩, by simp [hc1]⟩
    · rename_i fs hu
      simp only [Bool.and_eq_true, beq_iff_eq] at hs
      obtain ⟨ys, k, _, _, hcl, hyl, hfs⟩ := DataW.trod_struct hu ht
      obtain ⟨qs, h1, h2, h3⟩ := fields_rep cs k (Typed P n) fs.toList 0 _ ys hs.1 (fun f hf cs x h => ih f.type k cs x (List.all_eq_true.1 hs.2 f hf) h) hcl.symm (by simpa using hyl) (fun i f hf => hfs i f (by simpa using hf))
      refine ⟨.agg (qs.flatMap PV.cells), ?_, ⟨qs, rfl, by simpa using h1, fun i f q hf hq => h2 i f q (by simpa using hf) hq⟩, hcl⟩
      simpa [PV.cells] using h3
    · cases hs

theorem trod_repS {base : Nat} {held : Bool} {S : List TypeId} (hS : suppS P S = true) : ∀ (n : Nat) (t : TypeId) (cs : List Value) (x : DataW H × List MemPlace), t ∈ S → DataW.trod enc P w base (fun _ => true) held n t cs = some x →
    ∃ p, CellsRel (Low w) w cs p.cells ∧ Typed P n t p ∧ cs.length = P.cellsOf t := by
  intro n
  induction n with
  | zero => intro t cs x _ h; simp [DataW.trod] at h
  | succ n ih =>
    intro t cs x hm ht
    have hs := List.all_eq_true.1 hS t hm
    simp only [Typed]
    split at hs
    · rename_i hu
      obtain ⟨b, rfl, _⟩ := DataW.trod_bool hu ht
      exact ⟨.bool b, cellsRel_one rfl (.bool b), ⟨b, rfl⟩, by simp at hs; simp [hs]⟩
    · rename_i k hu
      obtain ⟨m, rfl, _, hw⟩ := DataW.trod_int hu ht
      exact ⟨.int k m, cellsRel_one rfl (.int k m), ⟨m, rfl, hw⟩, by simp at hs; simp [hs]⟩
    · rename_i hu
      obtain ⟨s, rfl, _, hl⟩ := DataW.trod_string hu ht
      refine ⟨.str s.data.toList, cellsRel_one rfl (.str s.data.toList), ⟨s.data.toList, rfl, ?_⟩, by simp at hs; simp [hs]⟩
      simpa using hl
    · rename_i e hu
      simp only [Bool.and_eq_true, beq_iff_eq, bne_iff_ne, ne_eq, List.contains_iff_mem] at hs
      obtain ⟨hc1, hse, hne⟩ := hs
      rcases DataW.trod_slice hu ht with ⟨rfl, _⟩ | ⟨a, len, cap, elems, rest, k, hk, rfl, rfl, hb, hlen, hcap, hel, hat, _, _⟩
      · exact ⟨.slice [], cellsRel_one rfl .sliceNil, ⟨[], rfl, Nat.zero_le _, fun x hx => by cases hx⟩, by simp [hc1]⟩
      · obtain rfl : n = k := Nat.succ.inj hk
        obtain ⟨xs, h1, h2, h3⟩ := slice_rep (base := base) (Typed P n e) hne hlen hcap (fun i hi => by
          have h := hat i hi
          rw [List.getElem?_eq_getElem (by omega)] at h
          obtain ⟨cs', hc', ht'⟩ := Option.bind_eq_some_iff.1 h
          exact ⟨cs', hc', ih e cs' _ hse ht'⟩)
        exact ⟨.slice xs, h1, ⟨xs, rfl, h2, h3⟩, by simp [hc1]⟩
    · rename_i fs hu
      simp only [Bool.and_eq_true, beq_iff_eq] at hs
      obtain ⟨ys, k, hk, _, hcl, hyl, hfs⟩ := DataW.trod_struct hu ht
      obtain rfl : n = k := Nat.succ.inj hk
      obtain ⟨qs, h1, h2, h3⟩ := fields_rep cs n (Typed P n) fs.toList 0 _ ys hs.1 (fun f hf cs x h => ih f.type cs x (by have := List.all_eq_true.1 hs.2 f hf; rwa [List.contains_iff_mem] at this) h) hcl.symm (by simpa using hyl) (fun i f hf => hfs i f (by simpa using hf))
      refine ⟨.agg (qs.flatMap PV.cells), ?_, ⟨qs, rfl, by simpa using h1, fun i f q hf hq => h2 i f q (by simpa using hf) hq⟩, hcl⟩
      simpa [PV.cells] using h3
    · cases hs

/-- An argument: from its cells. -/
theorem param_cells {n : Nat} {t : TypeId} {v : Value} {r : Reach} {b : Nat} {p : PV} (hs : (match P.underlying t with | some .bool | some (.int _) | some .string | some (.slice _) | some (.struct _) => true | _ => false) = true) (hv : Value.okWide P w r b t v) (h1 : CellsRel (Low w) w v.cells.toList p.cells) (h2 : Typed P n t p) :
    ∃ p, Rep (Low w) w v p ∧ Typed P n t p := by
  cases n with
  | zero => cases h2
  | succ n =>
    have one : ∀ p : PV, p.one = true → v.cells = #[v] → CellsRel (Low w) w v.cells.toList p.cells → Rep (Low w) w v p := by
      intro p hp hc hr
      have hpc : p.cells = [p] := by cases p <;> first | rfl | simp [PV.one] at hp
      rw [hc, hpc] at hr
      exact hr.2.2 0 v p rfl rfl
    simp only [Typed] at h2
    split at hs
    · rename_i hu
      rw [hu] at h2
      obtain ⟨b, rfl⟩ := okWide_bool hu hv
      obtain ⟨b', rfl⟩ := h2
      exact ⟨_, one _ rfl rfl h1, by simp only [Typed, hu]; exact ⟨_, rfl⟩⟩
    · rename_i k hu
      rw [hu] at h2
      obtain ⟨b, rfl⟩ := okWide_int hu hv
      obtain ⟨b', rfl, hw⟩ := h2
      exact ⟨_, one _ rfl rfl h1, by simp only [Typed, hu]; exact ⟨_, rfl, hw⟩⟩
    · rename_i hu
      rw [hu] at h2
      obtain ⟨b, rfl⟩ := okWide_string hu hv
      obtain ⟨b', rfl, hw⟩ := h2
      exact ⟨_, one _ rfl rfl h1, by simp only [Typed, hu]; exact ⟨_, rfl, hw⟩⟩
    · rename_i e hu
      rw [hu] at h2
      obtain ⟨a, len, cap, rfl⟩ := okWide_slice hu hv
      obtain ⟨xs, rfl, hw⟩ := h2
      exact ⟨_, one _ rfl rfl h1, by simp only [Typed, hu]; exact ⟨_, rfl, hw⟩⟩
    · rename_i fs hu
      rw [hu] at h2
      obtain ⟨cs, rfl, _⟩ := okWide_struct hu hv
      obtain ⟨qs, rfl, hq⟩ := h2
      obtain ⟨l⟩ := cs
      exact ⟨_, .agg l _ h1.1 h1.2.1 h1.2.2, by simp only [Typed, hu]; exact ⟨_, rfl, hq⟩⟩
    · cases hs

/-- An argument. -/
theorem param_rep {n : Nat} {t : TypeId} {v : Value} {d : DataW H} {ps : List MemPlace} {r : Reach} {b : Nat} (hs : supp P n t = true) (hv : Value.okWide P w r b t v) (h : DataW.Trod enc P w 0 (fun _ => true) true t v d ps) :
    ∃ p, Rep (Low w) w v p ∧ Typed P n t p := by
  obtain ⟨fuel, hf⟩ := h
  obtain ⟨p, h1, h2, h3⟩ := trod_rep n t fuel _ _ hs hf
  refine param_cells ?_ hv h1 h2
  cases n with
  | zero => simp [supp] at hs
  | succ n =>
    simp only [supp] at hs
    split at hs <;> first | (simp only; done) | (exact absurd hs (by decide))

/-- An argument of a type that may hold itself. -/
theorem param_repS {S : List TypeId} (hS : suppS P S = true) {t : TypeId} {v : Value} {d : DataW H} {ps : List MemPlace} {r : Reach} {b : Nat} (hs : t ∈ S) (hv : Value.okWide P w r b t v) (h : DataW.Trod enc P w 0 (fun _ => true) true t v d ps) :
    ∃ p, Rep (Low w) w v p ∧ ∃ n, Typed P n t p := by
  obtain ⟨fuel, hf⟩ := h
  obtain ⟨p, h1, h2, h3⟩ := trod_repS hS fuel t _ _ hs hf
  obtain ⟨q, a, b⟩ := param_cells (by
    have := List.all_eq_true.1 hS t hs
    split at this <;> first | (simp only; done) | (exact absurd this (by decide))) hv h1 h2
  exact ⟨q, a, fuel, b⟩

end
end Go.Abs
