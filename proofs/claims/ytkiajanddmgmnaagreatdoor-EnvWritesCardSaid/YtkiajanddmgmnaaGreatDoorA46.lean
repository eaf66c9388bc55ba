import Derived.Test.YtkiajanddmgmnaaGreatDoorA45
import Derived.Deep.Upon
import Derived.Deep.MidRow
import Derived.Sort.Row
/- The abstract machine, part 46: calls that lengthen or cut a row in its place (slices.Insert, slices.Delete). -/
namespace Go.Abs
open Go.RowKit

section
variable {E : Env}

theorem row_gv {γ : List Gh} {H : List AObj} {Φ : Nat → Nat → Prop} {w : World} {v : Value} {l n : Nat} {e : TypeId} {sz : Nat} {xs : List PV} {fz : Bool} {g : Gh} (hH : H[l]? = some (.row e sz xs fz)) (hg : γ[l]? = some g) (hx : ARel γ H Φ w v (.vec l n)) (hn : n = xs.length) : v = g.v := by
  cases hx with
  | vec A l n cap e0 sz0 len0 hrow hn0 hA hcur =>
    have hre := rowAt_row hH
    rw [hrow] at hre
    injection hre with hre
    injection hre with _ hre
    injection hre with _ hxx
    have := hcur (by omega)
    simp only [gv, hg, Option.map_some, Option.some.injEq] at this
    exact this.symm

theorem Good.growRow {f e sz : Nat} (xs ys ps : List PV) (hle : xs.length < ys.length) (hsz' : ∀ z ∈ ys, z.cells.length = sz)
    (hc : ∀ (w : World) (Φ : Nat → Nat → Prop) (v : Value) (cells us : List Value), w.ownsRow 0 e sz v xs.length cells → CellsRel Φ w cells (flat xs) → (∀ b k, Φ b k → b < w.heap.size) → (∀ b, v.ownBlock = some b → b < w.heap.size ∧ ∀ k, ¬ Φ b k) →
      us.length = ps.length → (∀ (i : Nat) u p, us[i]? = some u → ps[i]? = some p → Rep Φ w u p) →
      Calls E.P f ⟨v :: us⟩ w fun e' w' => ∃ v' cells', e' = .returned v' ∧ w'.ownsRow 0 e sz v' ys.length cells' ∧ Grew w w' v v' ∧ CellsRel Φ w cells' (flat ys)) :
    Good E f (.vec 0 xs.length :: ps.map .pv) [.row e sz xs false] [.vec 0 ys.length] [.row e sz ys false] := by
  intro w Φ γ cargs hI hl hr
  obtain ⟨g, hg, hO⟩ := hI.gh (l := 0) (o := .row e sz xs false) rfl
  have hO' := hO
  obtain ⟨cells, hown, hcl, hrep, hsz, h1, hgo, h0, hphi⟩ := hO
  match cargs, hl with
  | v :: us, hl =>
    have hvg : v = g.v := row_gv (H := [.row e sz xs false]) rfl hg (hr 0 v _ rfl rfl) rfl
    subst hvg
    have hmem : ∀ b, b ∈ g.own ↔ g.v.ownBlock = some b := fun b => by rw [hgo]; simp
    have hno : ∀ b, g.v.ownBlock = some b → b < w.heap.size ∧ ∀ k, ¬ Φ b k := fun b hb => ⟨(hI.own 0 g hg b ((hmem b).2 hb)).2, fun k hk => by
      have := ((hphi b hb) k).1 hk
      cases this.1⟩
    refine (hc w Φ g.v cells us hown ⟨hcl, h1, hrep⟩ (fun b k h => hI.phi b k h) hno (by simpa using hl) (fun i u p hu hp => ?_)).mono fun e' w' ⟨v', cells', he, hown', hG, hcr⟩ => ?_
    · have := hr (i + 1) u (.pv p) (by simpa using hu) (by simp [hp])
      exact arel_pv this
    · have hblk : ∀ b, v'.ownBlock = some b → (b ∈ g.own ∨ w.heap.size ≤ b) ∧ b < w'.heap.size := by
        intro b hb
        rcases hG.way with ⟨h, hlt, _⟩ | ⟨h, hs, _⟩
        · rw [h] at hb
          injection hb with hb
          exact ⟨.inr (by omega), by omega⟩
        · rw [h] at hb
          have := (hmem b).2 hb
          exact ⟨.inl this, Nat.lt_of_lt_of_le (hI.own 0 g hg b this).2 hG.size⟩
      obtain ⟨A, c, hvs, hA⟩ := ownsRow_slice hown'
      obtain ⟨A0, c0, hvs0, _⟩ := ownsRow_slice hown
      have hk := hI.setObj (o' := .row e sz ys false) (g' := ⟨v', v'.ownBlock.toList⟩) (w' := w') (Φ' := Φ) (l := 0) rfl hg (fun b hb hn => by
          rcases hG.way with ⟨_, _, hsm⟩ | ⟨_, _, hsm⟩
          · exact hsm b hb
          · exact hsm b (fun hh => hn ((hmem b).2 hh.symm))) hG.size hG.os hG.tape hG.output (fun _ _ h => h) (fun b k h hb hn => h) (fun b k h => Nat.lt_of_lt_of_le (hI.phi b k h) hG.size)
        (fun b k h hb => absurd h ((hno b ((hmem b).1 hb)).2 k)) (fun b hb => hblk b (by simpa using hb)) (.inr ⟨A0, _, c0, hvs0⟩)
        (fun e1 sz1 n1 hr1 => by
          simp only [rowLike, Option.some.injEq, Prod.mk.injEq] at hr1
          obtain ⟨rfl, rfl, rfl⟩ := hr1
          exact ⟨_, rfl, Nat.le_of_lt hle, fun h => by omega⟩)
        (fun hE => by
          have hcr' := cellsRel_mono hcr (Φ' := Φ) (fun _ _ h => h) hE.cell
          refine ⟨cells', hown', hcr'.1, hcr'.2.2, hsz', hcr'.2.1, rfl, h0, fun b hb k => ⟨fun h => ?_, fun hf => by cases hf⟩⟩
          rcases (hblk b hb).1 with hbo | hbo
          · exact absurd h ((hno b ((hmem b).1 hbo)).2 k)
          · have := hI.phi b k h
            omega)
      refine ⟨[v'], _, _, he, hk, rfl, fun i u a hu ha => ?_⟩
      match i, hu, ha with
      | 0, hu, ha =>
        cases hu
        cases ha
        rw [hvs]
        refine .vec A 0 _ c e sz ys.length (rowAt_row (fz := false) rfl) (Nat.le_refl _) hA (fun _ => ?_)
        unfold gv
        rw [List.getElem?_set_self (List.getElem?_eq_some_iff.1 hg).1, ← hvs]
        rfl

/-- A part of a plain slice from its beginning. -/
theorem rep_take {Φ : Nat → Nat → Prop} {w : World} {A : Addr} {n m cap : Nat} {xs : List PV} (h : Rep Φ w (.slice (some A) n cap) (.slice xs)) (hm : m ≤ n) : Rep Φ w (.slice (some A) m cap) (.slice (xs.take m)) := by
  cases h with
  | sliceAny A cap hc =>
    have : m = 0 := by omega
    subst this
    exact .sliceAny A cap hc
  | slice b o len cap sz xs vs hl hn hmx hsz h1 hcell hrep =>
    have hfl := flat_length hsz
    have hpre : ∀ (k : Nat) (c : PV), (flat (xs.take m))[k]? = some c → (flat xs)[k]? = some c := by
      intro k c hk
      have : flat xs = flat (xs.take m) ++ flat (xs.drop m) := by rw [← flat_append, List.take_append_drop]
      rw [this, List.getElem?_append_left (List.getElem?_eq_some_iff.1 hk).1]
      exact hk
    have hsz2 : ∀ z ∈ xs.take m, z.cells.length = sz := fun z hz => hsz z (List.mem_of_mem_take hz)
    refine .slice b o m cap sz (xs.take m) vs (by rw [List.length_take]; omega) (by omega) hmx hsz2 (fun c hc => h1 c ?_) (fun k hk => hcell k ?_) (fun k c hk => hrep k c (hpre k c hk))
    · obtain ⟨q, hq, hqc⟩ := List.getElem_of_mem hc
      exact List.mem_of_getElem? (hpre q c (by rw [List.getElem?_eq_getElem hq, hqc]))
    · rw [flat_length hsz2, List.length_take] at hk
      rw [hfl]
      exact Nat.lt_of_lt_of_le hk (Nat.mul_le_mul_right _ (Nat.min_le_right _ _))

theorem Good.cutRow {f e sz m : Nat} (xs ys ps : List PV) (hlen : ys.length = xs.length) (hm : m ≤ xs.length) (hsz' : ∀ z ∈ ys, z.cells.length = sz)
    (hc : ∀ (w : World) (Φ : Nat → Nat → Prop) (v : Value) (cells us : List Value), w.ownsRow 0 e sz v xs.length cells → CellsRel Φ w cells (flat xs) → (∀ b k, Φ b k → b < w.heap.size) → (∀ b, v.ownBlock = some b → b < w.heap.size ∧ ∀ k, ¬ Φ b k) →
      us.length = ps.length → (∀ (i : Nat) u p, us[i]? = some u → ps[i]? = some p → Rep Φ w u p) →
      Calls E.P f ⟨v :: us⟩ w fun e' w' => ∃ A cap cells', v = .slice (some A) xs.length cap ∧ e' = .returned (.slice (some A) m cap) ∧ w'.ownsRow 0 e sz v ys.length cells' ∧
        w'.os = w.os ∧ w'.tape = w.tape ∧ w'.output = w.output ∧ w'.heap.size = w.heap.size ∧ (∀ b, some b ≠ v.ownBlock → w'.heap[b]? = w.heap[b]?) ∧ CellsRel Φ w cells' (flat ys)) :
    Good E f (.vec 0 xs.length :: ps.map .pv) [.row e sz xs false] [.pv (.slice (ys.take m))] [.row e sz ys true] := by
  intro w Φ γ cargs hI hl hr
  obtain ⟨g, hg, hO⟩ := hI.gh (l := 0) (o := .row e sz xs false) rfl
  have hO' := hO
  obtain ⟨cells, hown, hcl, hrep, hsz, h1, hgo, h0, hphi⟩ := hO
  match cargs, hl with
  | v :: us, hl =>
    have hvg : v = g.v := row_gv (H := [.row e sz xs false]) rfl hg (hr 0 v _ rfl rfl) rfl
    subst hvg
    have hmem : ∀ b, b ∈ g.own ↔ g.v.ownBlock = some b := fun b => by rw [hgo]; simp
    have hno : ∀ b, g.v.ownBlock = some b → b < w.heap.size ∧ ∀ k, ¬ Φ b k := fun b hb => ⟨(hI.own 0 g hg b ((hmem b).2 hb)).2, fun k hk => by
      have := ((hphi b hb) k).1 hk
      cases this.1⟩
    refine (hc w Φ g.v cells us hown ⟨hcl, h1, hrep⟩ (fun b k h => hI.phi b k h) hno (by simpa using hl) (fun i u p hu hp => ?_)).mono fun e' w' ⟨A, cap, cells', hvs, he, hown', hos, htp, hou, hsize, hheap, hcr⟩ => ?_
    · have := hr (i + 1) u (.pv p) (by simpa using hu) (by simp [hp])
      exact arel_pv this
    · let Φ' : Nat → Nat → Prop := fun b k => Φ b k ∨ (g.v.ownBlock = some b ∧ k < ys.length * sz)
      have hEO : ∀ (γ' : List Gh) (H' : List AObj), Evo γ [.row e sz xs false] Φ w γ' H' Φ' w' → RowRel Φ' w' e sz ys true g := by
        intro γ' H' hE
        have hcr' := cellsRel_mono hcr (Φ' := Φ') (fun _ _ h => .inl h) hE.cell
        refine ⟨cells', hown', hcr'.1, hcr'.2.2, hsz', hcr'.2.1, hgo, h0, fun b hb k => ⟨fun h => ?_, fun _ hk => .inr ⟨hb, hk⟩⟩⟩
        rcases h with h | ⟨_, h⟩
        · exact absurd h ((hno b hb).2 k)
        · exact ⟨rfl, h⟩
      have hk := hI.setObj (o' := .row e sz ys true) (g' := g) (w' := w') (Φ' := Φ') (l := 0) rfl hg (fun b hb hn => hheap b (fun hh => hn ((hmem b).2 hh.symm))) (by omega) hos htp hou (fun _ _ h => .inl h)
        (fun b k h hb hn => by
          rcases h with h | ⟨h, _⟩
          · exact h
          · exact absurd ((hmem b).2 h) hn)
        (fun b k h => by
          rcases h with h | ⟨h, _⟩
          · have := hI.phi b k h
            omega
          · have := (hno b h).1
            omega)
        (fun b k h hb => absurd h ((hno b ((hmem b).1 hb)).2 k)) (fun b hb => ⟨.inl hb, by have := (hI.own 0 g hg b hb).2; omega⟩) (.inl rfl)
        (fun e1 sz1 n1 hr1 => by
          simp only [rowLike, Option.some.injEq, Prod.mk.injEq] at hr1
          obtain ⟨rfl, rfl, rfl⟩ := hr1
          exact ⟨_, rfl, by omega, fun h => rfl⟩)
        (fun hE => hEO _ _ hE)
      refine ⟨[.slice (some A) m cap], _, _, he, hk, rfl, fun i u a hu ha => ?_⟩
      match i, hu, ha with
      | 0, hu, ha =>
        cases hu
        cases ha
        have hrow := row_rep (E := E) (γ := []) (H := []) (hEO _ _ hk.evo)
        rw [hvs] at hrow
        exact .pv (rep_take hrow hm)

theorem flat_parts {sz : Nat} {xs : List PV} (h : ∀ x ∈ xs, x.cells.length = sz) (i : Nat) : flat (xs.take i) = (flat xs).take (i * sz) ∧ flat (xs.drop i) = (flat xs).drop (i * sz) := by
  have hx : flat xs = flat (xs.take i) ++ flat (xs.drop i) := by rw [← flat_append, List.take_append_drop]
  have hl := flat_length (xs := xs.take i) fun x hx => h x (List.mem_of_mem_take hx)
  rcases Nat.le_total i xs.length with hi | hi
  · have hl2 : (flat (xs.take i)).length = i * sz := by rw [hl, List.length_take, Nat.min_eq_left hi]
    rw [hx, ← hl2, List.take_left, List.drop_left]
    exact ⟨rfl, rfl⟩
  · rw [List.take_of_length_le hi, List.drop_of_length_le hi]
    have : (flat xs).length ≤ i * sz := by rw [flat_length h]; exact Nat.mul_le_mul_right _ hi
    rw [List.take_of_length_le this, List.drop_of_length_le this]
    exact ⟨rfl, rfl⟩

theorem cellsRel_part {Φ : Nat → Nat → Prop} {w : World} {vs : List Value} {cs : List PV} (h : CellsRel Φ w vs cs) (k : Nat) : CellsRel Φ w (vs.take k) (cs.take k) ∧ CellsRel Φ w (vs.drop k) (cs.drop k) := by
  obtain ⟨h1, h2, h3⟩ := h
  refine ⟨⟨by rw [List.length_take, List.length_take, h1], fun c hc => h2 c (List.mem_of_mem_take hc), fun i u c hu hc => ?_⟩, ⟨by rw [List.length_drop, List.length_drop, h1], fun c hc => h2 c (List.mem_of_mem_drop hc), fun i u c hu hc => ?_⟩⟩
  · rw [List.getElem?_take] at hu hc
    split at hu
    · rename_i hk
      rw [if_pos hk] at hc
      exact h3 i u c hu hc
    · cases hu
  · rw [List.getElem?_drop] at hu hc
    exact h3 _ u c hu hc

theorem setCells_row (b : Nat) : ∀ (vs : List Value) (k : Nat) (w : World) (cur : Array Value) (T : TypeId) (fr : Nat × Nat), w.heap[b]? = some (.cells cur T fr) → k + vs.length ≤ cur.size → (w.setCells b k vs).heap[b]? = some (.cells (putVs cur.toList k vs).toArray T fr)
  | [], k, w, cur, T, fr, h, hk => by
    show w.heap[b]? = _
    rw [h]
    unfold putVs
    simp
  | v :: r, k, w, cur, T, fr, h, hk => by
    simp only [List.length_cons] at hk
    have h1 : (w.setCell ⟨b, k, none⟩ v).heap[b]? = some (.cells (cur.setIfInBounds k v) T fr) := by
      unfold World.setCell
      simp [Array.getElem?_modify, h]
    have h2 := setCells_row b r (k + 1) _ _ T fr h1 (by rw [Array.size_setIfInBounds]; omega)
    show ((w.setCell ⟨b, k, none⟩ v).setCells b (k + 1) r).heap[b]? = _
    rw [h2]
    refine (fun (he : putVs (cur.setIfInBounds k v).toList (k + 1) r = putVs cur.toList k (v :: r)) => by rw [he]) ?_
    refine List.ext_getElem? fun i => ?_
    have q1 := putVs_get (cells := (cur.setIfInBounds k v).toList) (k := k + 1) (vs := r) (by simp; omega) i
    have q2 := putVs_get (cells := cur.toList) (k := k) (vs := v :: r) (by simp; omega) i
    simp only [List.length_cons, Array.getElem?_toList, Array.getElem?_setIfInBounds] at q1 q2
    rw [q1, q2]
    by_cases hi : i = k
    · subst hi
      rw [if_neg (by omega), if_pos rfl, if_pos (by omega), if_pos (by omega)]
      simp
    · rw [if_neg (Ne.symm hi)]
      by_cases h3 : k + 1 ≤ i ∧ i < k + 1 + r.length
      · rw [if_pos h3, if_pos (by omega), show i - k = (i - (k + 1)) + 1 by omega, List.getElem?_cons_succ]
      · rw [if_neg h3, if_neg (by omega)]

theorem setCells_same (b : Nat) : ∀ (vs : List Value) (k : Nat) (w : World), (w.setCells b k vs).os = w.os ∧ (w.setCells b k vs).tape = w.tape ∧ (w.setCells b k vs).output = w.output ∧ (w.setCells b k vs).heap.size = w.heap.size ∧ ∀ c, c ≠ b → (w.setCells b k vs).heap[c]? = w.heap[c]?
  | [], k, w => ⟨rfl, rfl, rfl, rfl, fun _ _ => rfl⟩
  | v :: r, k, w => by
    obtain ⟨h1, h2, h3, h4, h5⟩ := setCells_same b r (k + 1) (w.setCell ⟨b, k, none⟩ v)
    refine ⟨h1, h2, h3, by rw [World.setCells, h4]; unfold World.setCell; simp, fun c hc => ?_⟩
    rw [World.setCells, h5 c hc]
    unfold World.setCell
    simp [Array.getElem?_modify, Ne.symm hc]

/-- Cells written in a row of the call's own. -/
theorem owns_setCells {w : World} {e : TypeId} {sz n b k : Nat} {v : Value} {cells vs : List Value} (h : w.ownsRow 0 e sz v n cells) (hb : v.ownBlock = some b) (hk : k + vs.length ≤ cells.length) : (w.setCells b k vs).ownsRow 0 e sz v n (putVs cells k vs) := by
  have hcl := h.1
  rcases h.2 with ⟨rfl, _⟩ | ⟨b', cap, cur, rfl, h0, hheap, hnc, hcm, hcs, htake⟩
  · cases hb
  · have hbb : b' = b := by
      simp [Value.ownBlock] at hb
      exact hb
    subst hbb
    have hfc : k + vs.length ≤ cur.size := by
      have := Nat.mul_le_mul_right sz hnc
      rw [hcs]
      omega
    have hpl : (putVs cur.toList k vs).length = cur.toList.length := putVs_length (by rw [Array.length_toList]; exact hfc)
    refine ⟨by rw [putVs_length hk, hcl], .inr ⟨b', cap, _, rfl, h0, setCells_row b' vs k w cur e _ hheap hfc, hnc, hcm, by rw [List.size_toArray, hpl, Array.length_toList, hcs], ?_⟩⟩
    refine List.ext_getElem? fun i => ?_
    rw [putVs_get hk i, List.getElem?_take]
    show (if i < n * sz then (putVs cur.toList k vs)[i]? else none) = _
    rw [putVs_get (by rw [Array.length_toList]; exact hfc) i]
    by_cases hi : i < n * sz
    · rw [if_pos hi]
      by_cases hin : k ≤ i ∧ i < k + vs.length
      · rw [if_pos hin, if_pos hin]
      · rw [if_neg hin, if_neg hin, ← htake, List.getElem?_take, if_pos hi]
    · rw [if_neg hi, if_neg (by omega), List.getElem?_eq_none (by omega)]

theorem owns_plain {w : World} {e : TypeId} {sz n : Nat} {v : Value} {cells : List Value} (h : w.ownsRow 0 e sz v n cells) {b : Nat} (hb : v.ownBlock = some b) : ∀ (k : Nat) u, cells[k]? = some u → w.cell? ⟨b, k, none⟩ = some u ∧ w.frozen? ⟨b, k, none⟩ = false := by
  intro k u hu
  have hk : k < n * sz := by rw [← h.1]; exact (List.getElem?_eq_some_iff.1 hu).1
  refine ⟨by rw [owns_cell h hb hk, hu], ?_⟩
  rcases h.2 with ⟨rfl, _⟩ | ⟨b', cap, cur, rfl, h0, hheap, hnc, hcm, hcs, htake⟩
  · cases hb
  · have hbb : b' = b := by
      simp [Value.ownBlock] at hb
      exact hb
    subst hbb
    unfold World.frozen?
    simp [hheap]

end
end Go.Abs
