import Derived.Test.YtkiajanddmgmnaaGreatDoorA39
import Derived.Test.YtkiajanddmgmnaaGreatDoorA31
/- The abstract machine, part 44: rows whose elements hold rows of their own: how they begin, how one element is opened and closed, how they end; a cell's value as a plain one. -/
namespace Go.Abs
open Go.RowKit

theorem nodup_flatMap_one {α β : Type} (f : α → List β) : ∀ {gs : List α}, (gs.flatMap f).Nodup → ∀ {i j : Nat} {x y : α} {b : β}, gs[i]? = some x → gs[j]? = some y → b ∈ f x → b ∈ f y → i = j
  | [], _, i, _, _, _, _, h, _, _, _ => by simp at h
  | z :: gs, hn, i, j, x, y, b, hi, hj, hx, hy => by
    rw [List.flatMap_cons] at hn
    obtain ⟨h1, h2, h3⟩ := List.nodup_append.1 hn
    have mem : ∀ {k : Nat} {u : α}, gs[k]? = some u → b ∈ f u → b ∈ gs.flatMap f := fun hk hu => List.mem_flatMap.2 ⟨_, List.mem_of_getElem? hk, hu⟩
    cases i with
    | zero =>
      cases j with
      | zero => rfl
      | succ j =>
        simp only [List.getElem?_cons_zero, Option.some.injEq] at hi
        subst hi
        rw [List.getElem?_cons_succ] at hj
        exact absurd rfl (h3 b hx b (mem hj hy))
    | succ i =>
      rw [List.getElem?_cons_succ] at hi
      cases j with
      | zero =>
        simp only [List.getElem?_cons_zero, Option.some.injEq] at hj
        subst hj
        exact absurd rfl (h3 b hy b (mem hi hx))
      | succ j =>
        rw [List.getElem?_cons_succ] at hj
        rw [nodup_flatMap_one f h2 hi hj hx hy]

section
variable {E : Env} {σ : St} {k : Nat}

theorem set_self {α : Type} {xs : List α} {l : Nat} {x : α} (h : xs[l]? = some x) : xs.set l x = xs := by
  refine List.ext_getElem? fun i => ?_
  by_cases hi : i = l
  · subst hi
    rw [List.getElem?_set_self (List.getElem?_eq_some_iff.1 h).1, h]
  · rw [List.getElem?_set_ne (Ne.symm hi)]

/-- A value of a variable's cell as a plain one. -/
theorem Weak.cellPV (l j : Nat) {cs : List AV} {a : AV} {p : PV} (hl : σ.h[l]? = some (.var cs)) (hj : cs[j]? = some a) (hp : toPV σ.h a = some p) : Weak E k σ ⟨σ.t, σ.n, σ.h.set l (.var (cs.set j (.pv p)))⟩ := by
  intro γ₀ H₀ Φ₀ w₀ a' w _ hR
  obtain ⟨⟨γ, Φ, hok, hs⟩, hn, hd, hl0⟩ := hR
  obtain ⟨g, hg, hO⟩ := hok.inv.gh hl
  obtain ⟨b, T, vs, hv, hown, hb, hvl, hrel, hnΦ⟩ := hO
  have hk := hok.inv.setObj (o' := .var (cs.set j (.pv p))) (g' := g) (w' := w) (Φ' := Φ) hl hg (fun _ _ _ => rfl) (Nat.le_refl _) rfl rfl rfl (fun _ _ h => h) (fun _ _ h _ _ => h) (fun b k h => hok.inv.phi b k h) (fun _ _ _ _ => rfl)
    (fun b hb => ⟨.inl hb, (hok.inv.own l g hg b hb).2⟩) (.inl rfl) (fun e1 sz1 n1 h => by cases h)
    (fun hE => ⟨b, T, vs, hv, hown, hb, by simpa using hvl, fun i v c hvi hc => by
      by_cases hij : i = j
      · subst hij
        rw [List.getElem?_set_self (List.getElem?_eq_some_iff.1 hj).1] at hc
        injection hc with hc
        subst hc
        obtain ⟨h1, h2⟩ := hrel i v _ hvi hj
        exact ⟨h1, .pv ((toPV_rep hok.inv h2 hp).mono hE.phi hE.cell)⟩
      · rw [List.getElem?_set_ne (Ne.symm hij)] at hc
        obtain ⟨h1, h2⟩ := hrel i v c hvi hc
        exact ⟨h1, h2.mono hE⟩, hnΦ⟩)
  exact ⟨⟨_, _, hok.trans hk, fun i => (hs i).mono hk.evo⟩, hn, hd, hl0⟩

/-- A row that is to hold rows of its own. -/
theorem Weak.treeStart (l off : Nat) (e2 : TypeId) (sz2 : Nat) {e : TypeId} {sz : Nat} {xs : List PV} (hl : σ.h[l]? = some (.row e sz xs false)) (hoff : off < sz) : Weak E k σ ⟨σ.t, σ.n, σ.h.set l (.tree e sz off e2 sz2 0 xs)⟩ := by
  intro γ₀ H₀ Φ₀ w₀ a' w _ hR
  obtain ⟨⟨γ, Φ, hok, hs⟩, hn, hd, hl0⟩ := hR
  obtain ⟨g, hg, hO⟩ := hok.inv.gh hl
  obtain ⟨cells, hown, hcl, hrep, hsz, h1, hgo, h0, hphi⟩ := hO
  have hk := hok.inv.setObj (o' := .tree e sz off e2 sz2 0 xs) (g' := g) (w' := w) (Φ' := Φ) hl hg (fun _ _ _ => rfl) (Nat.le_refl _) rfl rfl rfl (fun _ _ h => h) (fun _ _ h _ _ => h) (fun b k h => hok.inv.phi b k h) (fun _ _ _ _ => rfl)
    (fun b hb => ⟨.inl hb, (hok.inv.own l g hg b hb).2⟩) (.inl rfl)
    (fun e1 sz1 n1 hr => by
      simp only [rowLike, Option.some.injEq, Prod.mk.injEq] at hr
      obtain ⟨rfl, rfl, rfl⟩ := hr
      exact ⟨_, rfl, Nat.le_refl _, fun _ => rfl⟩)
    (fun hE => ⟨cells, [], hown, hcl, hsz, h1, h0, hoff, fun b hb k hk => absurd (((hphi b hb) k).1 hk).1 (by simp), rfl, Nat.zero_le _, (by rw [hgo]; simp), (by rw [hgo]; cases g.v.ownBlock <;> simp), fun k v c hv hc _ => (hrep k v c hv hc).mono hE.phi hE.cell, fun i gi hi => by simp at hi⟩)
  exact ⟨⟨_, _, hok.trans hk, fun i => (hs i).mono hk.evo⟩, hn, hd, hl0⟩

/-- The rows that the elements hold are written no more. -/
theorem Weak.treeRow (l : Nat) {e : TypeId} {sz off : Nat} {e2 : TypeId} {sz2 m : Nat} {xs : List PV} (hl : σ.h[l]? = some (.tree e sz off e2 sz2 m xs)) : Weak E k σ ⟨σ.t, σ.n, σ.h.set l (.row e sz xs false)⟩ := by
  intro γ₀ H₀ Φ₀ w₀ a' w _ hR
  obtain ⟨⟨γ, Φ, hok, hs⟩, hn, hd, hl0⟩ := hR
  obtain ⟨g, hg, hO⟩ := hok.inv.gh hl
  obtain ⟨cells, gs, hown, hcl, hsz, h1, h0, hoff, hnΦ, hgl, hm, hgo, hnd, hrep, hin⟩ := hO
  have hnd2 : (gs.flatMap Gh.own).Nodup := by
    rw [hgo] at hnd
    exact (List.nodup_append.1 hnd).2.1
  have hmem : ∀ (i : Nat) gi, gs[i]? = some gi → ∀ b ∈ gi.own, b ∈ g.own := fun i gi hi b hb => by
    rw [hgo]
    exact List.mem_append_right _ (List.mem_flatMap.2 ⟨gi, List.mem_of_getElem? hi, hb⟩)
  have hnot : ∀ (i : Nat) gi, gs[i]? = some gi → ∀ b ∈ gi.own, g.v.ownBlock ≠ some b := fun i gi hi b hb e => by
    rw [hgo] at hnd
    exact (List.nodup_append.1 hnd).2.2 b (by rw [e]; simp) b (List.mem_flatMap.2 ⟨gi, List.mem_of_getElem? hi, hb⟩) rfl
  have hk := hok.inv.setObj (o' := .row e sz xs false) (g' := ⟨g.v, g.v.ownBlock.toList⟩) (w' := w) (Φ' := fun b q => Φ b q ∨ ∃ (i : Nat) (gi : Gh) (ys : List PV), gs[i]? = some gi ∧ (flat xs)[i * sz + off]? = some (.slice ys) ∧ gi.v.ownBlock = some b ∧ b ∈ gi.own ∧ q < ys.length * sz2)
    hl hg (fun _ _ _ => rfl) (Nat.le_refl _) rfl rfl rfl (fun _ _ h => .inl h)
    (fun b q h _ hn => by
      rcases h with h | ⟨i, gi, ys, hi, _, _, hb, _⟩
      · exact h
      · exact absurd (hmem i gi hi b hb) hn)
    (fun b q h => by
      rcases h with h | ⟨i, gi, ys, hi, _, _, hb, _⟩
      · exact hok.inv.phi b q h
      · exact (hok.inv.own l g hg b (hmem i gi hi b hb)).2) (fun _ _ _ _ => rfl)
    (fun b hb => ⟨.inl (by rw [hgo]; exact List.mem_append_left _ hb), (hok.inv.own l g hg b (by rw [hgo]; exact List.mem_append_left _ hb)).2⟩) (.inl rfl)
    (fun e1 sz1 n1 hr => by
      simp only [rowLike, Option.some.injEq, Prod.mk.injEq] at hr
      obtain ⟨rfl, rfl, rfl⟩ := hr
      exact ⟨_, rfl, Nat.le_refl _, fun _ => rfl⟩)
    (fun hE => by
      refine ⟨cells, hown, hcl, fun q v c hv hc => ?_, hsz, h1, rfl, h0, fun b hb q => ⟨fun hq => ?_, fun hf => by cases hf⟩⟩
      · by_cases hq : q % sz ≠ off ∨ m * sz ≤ q
        · exact (hrep q v c hv hc hq).mono hE.phi hE.cell
        · simp only [ne_eq, not_or, Classical.not_not, Nat.not_le] at hq
          obtain ⟨hq1, hq2⟩ := hq
          have hqi : q / sz < gs.length := by rw [hgl]; exact Nat.div_lt_of_lt_mul (by rw [Nat.mul_comm]; exact hq2)
          have hqe : q / sz * sz + off = q := by
            have := Nat.div_add_mod q sz
            rw [hq1, Nat.mul_comm] at this
            exact this
          obtain ⟨ys, hy, hcg, hR⟩ := hin (q / sz) gs[q / sz] (List.getElem?_eq_getElem hqi)
          rw [hqe] at hy hcg
          rw [hy] at hc
          injection hc with hc
          rw [hcg] at hv
          injection hv with hv
          rw [← hv, ← hc]
          obtain ⟨cells2, k1, k2, k3, k4, k5, k6, k7, k8⟩ := hR
          refine row_rep (E := E) (γ := []) (H := []) (e := e2) (sz := sz2) ⟨cells2, k1, k2, fun z v c hv hc => (k3 z v c hv hc).mono hE.phi hE.cell, k4, k5, k6, k7, fun b hb z => ⟨fun hz => ⟨rfl, ?_⟩, fun _ hz => .inr ⟨q / sz, gs[q / sz], ys, List.getElem?_eq_getElem hqi, by rw [hqe]; exact hy, hb, by rw [k6, hb]; simp, hz⟩⟩⟩
          rcases hz with hz | ⟨i, gi, ys', hi, hy', _, hb', hz⟩
          · have := ((k8 b hb) z).1 hz
            cases this.1
          · have hii := nodup_flatMap_one Gh.own hnd2 (List.getElem?_eq_getElem hqi) hi (show b ∈ (gs[q / sz]).own by rw [k6, hb]; simp) hb'
            subst hii
            rw [hqe, hy] at hy'
            injection hy' with hy'
            injection hy' with hy'
            rw [hy']
            exact hz
      · rcases hq with hq | ⟨i, gi, ys, hi, _, _, hb', _⟩
        · exact absurd hq (hnΦ b hb q)
        · exact absurd hb (hnot i gi hi b hb'))
  exact ⟨⟨_, _, hok.trans hk, fun i => (hs i).mono hk.evo⟩, hn, hd, hl0⟩

/-- One element's row becomes an object; those of the others are written no more. -/
theorem Weak.open (l i : Nat) {e : TypeId} {sz off : Nat} {e2 : TypeId} {sz2 m : Nat} {xs ys : List PV} {cs : List PV} (hl : σ.h[l]? = some (.tree e sz off e2 sz2 m xs)) (him : i < m) (hx : xs[i]? = some (.agg cs)) (hc : cs[off]? = some (.slice ys)) :
    Weak E k σ ⟨σ.t, σ.n, σ.h.set l (.hrow e sz xs i off σ.h.length ys.length) ++ [.row e2 sz2 ys false]⟩ := by
  intro γ₀ H₀ Φ₀ w₀ a' w _ hR
  obtain ⟨⟨γ, Φ, hok, hs⟩, hn, hd, hl0⟩ := hR
  have hI := hok.inv
  obtain ⟨g, hg, hO⟩ := hI.gh hl
  obtain ⟨cells, gs, hown, hcl, hsz, h1, h0, hoff, hnΦ, hgl, hm, hgo, hnd, hrep, hin⟩ := hO
  have hnd1 := hnd
  rw [hgo] at hnd1
  obtain ⟨_, hnd2, hnd3⟩ := List.nodup_append.1 hnd1
  have hmem : ∀ (i : Nat) gi, gs[i]? = some gi → ∀ b ∈ gi.own, b ∈ g.own := fun i gi hi b hb => by
    rw [hgo]
    exact List.mem_append_right _ (List.mem_flatMap.2 ⟨gi, List.mem_of_getElem? hi, hb⟩)
  have hnot : ∀ (i : Nat) gi, gs[i]? = some gi → ∀ b ∈ gi.own, g.v.ownBlock ≠ some b := fun i gi hi b hb e =>
    hnd3 b (by rw [e]; simp) b (List.mem_flatMap.2 ⟨gi, List.mem_of_getElem? hi, hb⟩) rfl
  have hil : i < gs.length := by omega
  obtain ⟨gi, hgi⟩ : ∃ gi, gs[i]? = some gi := ⟨_, List.getElem?_eq_getElem hil⟩
  obtain ⟨ys', hy', hcg, hRi⟩ := hin i gi hgi
  have hat := flat_at hsz i off _ hx hoff
  rw [hat, agg_cells, hc] at hy'
  injection hy' with hy'
  injection hy' with hy'
  subst hy'
  have hlγ : l < γ.length := (List.getElem?_eq_some_iff.1 hg).1
  have hlH : l < σ.h.length := (List.getElem?_eq_some_iff.1 hl).1
  have hlen := hI.len
  have G1 : (γ.set l ⟨g.v, g.v.ownBlock.toList⟩ ++ [gi])[l]? = some ⟨g.v, g.v.ownBlock.toList⟩ := by
    rw [List.getElem?_append_left (by simpa using hlγ), List.getElem?_set_self hlγ]
  have G2 : (γ.set l ⟨g.v, g.v.ownBlock.toList⟩ ++ [gi])[γ.length]? = some gi := by
    rw [List.getElem?_append_right (by simp)]
    simp
  have O1 : (σ.h.set l (.hrow e sz xs i off σ.h.length ys.length) ++ [.row e2 sz2 ys false])[l]? = some (.hrow e sz xs i off σ.h.length ys.length) := by
    rw [List.getElem?_append_left (by simpa using hlH), List.getElem?_set_self hlH]
  have O2 : (σ.h.set l (.hrow e sz xs i off σ.h.length ys.length) ++ [AObj.row e2 sz2 ys false])[γ.length]? = some (.row e2 sz2 ys false) := by
    rw [List.getElem?_append_right (by simp; omega)]
    simp [hlen]
  obtain ⟨cells2, q1, q2, q3, q4, q5, q6, q7, q8⟩ := hRi
  have hk : Ok E γ σ.h Φ w (γ.set l ⟨g.v, g.v.ownBlock.toList⟩ ++ [gi]) (σ.h.set l (.hrow e sz xs i off σ.h.length ys.length) ++ [.row e2 sz2 ys false])
      (fun b q => Φ b q ∨ ∃ (j : Nat) (gj : Gh) (zs : List PV), j ≠ i ∧ gs[j]? = some gj ∧ (flat xs)[j * sz + off]? = some (.slice zs) ∧ gj.v.ownBlock = some b ∧ b ∈ gj.own ∧ q < zs.length * sz2) w := by
    refine Ok.of hI (fun q => q = l ∨ γ.length ≤ q) (by simp [hlen]) (by simp) (fun q hq => .inr hq) (fun q hq => ?_) (fun c => c ∈ g.own) (fun c => ⟨fun hc => ⟨l, g, .inl rfl, hg, hc⟩, fun hc => ?_⟩)
      (fun _ _ _ => rfl) (Nat.le_refl _) rfl rfl rfl (fun _ _ h => .inl h) (fun b q h _ hn => ?_) (fun b q h => ?_) (fun _ _ _ _ => rfl) (fun q gq hq hgq c hc => ?_) (fun p q gp gq hp hq hgp hgq hpq c hc => ?_) (fun q u hq hu => ?_) (fun q e1 sz1 n1 hq hr => ?_) (fun hE q oq gq hq hoq hgq => ?_)
    · simp only [not_or, Nat.not_le] at hq
      exact ⟨by rw [List.getElem?_append_left (by simpa using hq.2), List.getElem?_set_ne (Ne.symm hq.1)], by rw [List.getElem?_append_left (by simp; omega), List.getElem?_set_ne (Ne.symm hq.1)]⟩
    · obtain ⟨q, gq, hq, hgq, hcq⟩ := hc
      rcases hq with rfl | hq
      · rw [hg] at hgq; injection hgq with hgq; subst hgq; exact hcq
      · rw [List.getElem?_eq_none hq] at hgq; cases hgq
    · rcases h with h | ⟨j, gj, zs, _, hj, _, _, hb, _⟩
      · exact h
      · exact absurd (hmem j gj hj b hb) hn
    · rcases h with h | ⟨j, gj, zs, _, hj, _, _, hb, _⟩
      · exact hI.phi b q h
      · exact (hI.own l g hg b (hmem j gj hj b hb)).2
    · rcases hq with rfl | hq
      · rw [G1] at hgq
        injection hgq with hgq
        subst hgq
        have hcg2 : c ∈ g.own := by rw [hgo]; exact List.mem_append_left _ hc
        exact ⟨.inl hcg2, (hI.own q g hg c hcg2).2⟩
      · have hqe : q = γ.length := by
          have := (List.getElem?_eq_some_iff.1 hgq).1
          simp at this
          omega
        subst hqe
        rw [G2] at hgq
        injection hgq with hgq
        subst hgq
        exact ⟨.inl (hmem i gi hgi c hc), (hI.own l g hg c (hmem i gi hgi c hc)).2⟩
    · have at2 : ∀ {q : Nat} {gq : Gh}, γ.length ≤ q → (γ.set l ⟨g.v, g.v.ownBlock.toList⟩ ++ [gi])[q]? = some gq → q = γ.length ∧ gq = gi := by
        intro q gq hq hgq
        have hqe : q = γ.length := by
          have := (List.getElem?_eq_some_iff.1 hgq).1
          simp at this
          omega
        subst hqe
        rw [G2] at hgq
        injection hgq with hgq
        exact ⟨rfl, hgq.symm⟩
      rcases hp with rfl | hp
      · rcases hq with rfl | hq
        · exact absurd rfl hpq
        · obtain ⟨rfl, rfl⟩ := at2 hq hgq
          rw [G1] at hgp
          injection hgp with hgp
          subst hgp
          intro hc2
          exact hnot i gq hgi c hc2 (by simpa using hc)
      · obtain ⟨rfl, rfl⟩ := at2 hp hgp
        rcases hq with rfl | hq
        · rw [G1] at hgq
          injection hgq with hgq
          subst hgq
          intro hc2
          exact hnot i gp hgi c hc (by simpa using hc2)
        · obtain ⟨rfl, rfl⟩ := at2 hq hgq
          exact absurd rfl hpq
    · refine .inl ?_
      rcases hq with rfl | hq
      · unfold gv at hu ⊢; rw [G1]; rw [hg] at hu; exact hu
      · unfold gv at hu; rw [List.getElem?_eq_none hq] at hu; cases hu
    · rcases hq with rfl | hq
      · have hr0 := rowAt_tree hl
        rw [hr0] at hr
        injection hr with hr
        injection hr with hr1 hr
        injection hr with hr2 hr3
        subst hr1 hr2 hr3
        refine ⟨xs.length, rowAt_hrow O1, Nat.le_refl _, fun _ => ?_⟩
        unfold gv; rw [G1, hg]; rfl
      · have := rowAt_lt hr
        omega
    · have keepI : RowRel (fun b q => Φ b q ∨ ∃ (j : Nat) (gj : Gh) (zs : List PV), j ≠ i ∧ gs[j]? = some gj ∧ (flat xs)[j * sz + off]? = some (.slice zs) ∧ gj.v.ownBlock = some b ∧ b ∈ gj.own ∧ q < zs.length * sz2) w e2 sz2 ys false gi := by
        refine ⟨cells2, q1, q2, fun z v c hv hc => (q3 z v c hv hc).mono hE.phi hE.cell, q4, q5, q6, q7, fun b hb z => ⟨fun hz => ?_, fun hf => by cases hf⟩⟩
        rcases hz with hz | ⟨j, gj, zs, hji, hj, _, _, hb', _⟩
        · exact ((q8 b hb) z).1 hz
        · exact absurd (nodup_flatMap_one Gh.own hnd2 hj hgi hb' (by rw [q6, hb]; simp)) hji
      rcases hq with rfl | hq
      · rw [O1] at hoq
        injection hoq with hoq
        subst hoq
        rw [G1] at hgq
        injection hgq with hgq
        subst hgq
        refine ⟨cells, hown, hcl, hsz, h1, rfl, h0, hoff, (List.getElem?_eq_some_iff.1 hx).1, fun b hb z hz => ?_, fun z v c hv hc2 hz => ?_, fun v hv => ?_⟩
        · rcases hz with hz | ⟨j, gj, zs, _, hj, _, _, hb', _⟩
          · exact hnΦ b hb z hz
          · exact hnot j gj hj b hb' hb
        · by_cases hq : z % sz ≠ off ∨ m * sz ≤ z
          · exact (hrep z v c hv hc2 hq).mono hE.phi hE.cell
          · simp only [ne_eq, not_or, Classical.not_not, Nat.not_le] at hq
            obtain ⟨hq1, hq2⟩ := hq
            have hqi : z / sz < gs.length := by rw [hgl]; exact Nat.div_lt_of_lt_mul (by rw [Nat.mul_comm]; exact hq2)
            have hqe : z / sz * sz + off = z := by
              have := Nat.div_add_mod z sz
              rw [hq1, Nat.mul_comm] at this
              exact this
            have hzi : z / sz ≠ i := fun e => hz (by rw [← hqe, e])
            obtain ⟨zs, hy, hcz, hR⟩ := hin (z / sz) gs[z / sz] (List.getElem?_eq_getElem hqi)
            rw [hqe] at hy hcz
            rw [hy] at hc2
            injection hc2 with hc2
            rw [hcz] at hv
            injection hv with hv
            rw [← hv, ← hc2]
            obtain ⟨cells3, k1, k2, k3, k4, k5, k6, k7, k8⟩ := hR
            refine row_rep (E := E) (γ := []) (H := []) (e := e2) (sz := sz2) ⟨cells3, k1, k2, fun y v c hv hc => (k3 y v c hv hc).mono hE.phi hE.cell, k4, k5, k6, k7, fun b hb y => ⟨fun hy2 => ⟨rfl, ?_⟩, fun _ hy2 => .inr ⟨z / sz, gs[z / sz], zs, hzi, List.getElem?_eq_getElem hqi, by rw [hqe]; exact hy, hb, by rw [k6, hb]; simp, hy2⟩⟩⟩
            rcases hy2 with hy2 | ⟨j, gj, zs', _, hj, hy', _, hb', hy2⟩
            · have := ((k8 b hb) y).1 hy2
              cases this.1
            · have hii := nodup_flatMap_one Gh.own hnd2 (List.getElem?_eq_getElem hqi) hj (show b ∈ (gs[z / sz]).own by rw [k6, hb]; simp) hb'
              subst hii
              rw [hqe, hy] at hy'
              injection hy' with hy'
              injection hy' with hy'
              rw [hy']
              exact hy2
        · rw [hcg] at hv
          injection hv with hv
          subst hv
          obtain ⟨A, cap, hvs, hA⟩ := ownsRow_slice q1
          rw [hvs]
          have O3 := O2
          have G3 := G2
          rw [hlen] at O3 G3
          refine .vec A _ _ cap e2 sz2 ys.length (rowAt_row (fz := false) O3) (Nat.le_refl _) hA (fun _ => ?_)
          unfold gv
          rw [G3, ← hvs]
          rfl
      · have hqe : q = γ.length := by
          have := (List.getElem?_eq_some_iff.1 hgq).1
          simp at this
          omega
        subst hqe
        rw [O2] at hoq
        injection hoq with hoq
        subst hoq
        rw [G2] at hgq
        injection hgq with hgq
        subst hgq
        exact keepI
  exact ⟨⟨_, _, hok.trans hk, fun i => (hs i).mono hk.evo⟩, hn, hd, hl0⟩

/-- The open element is closed: its row is written no more. -/
theorem Weak.close (l : Nat) {e : TypeId} {sz : Nat} {xs xs' ys cs : List PV} {j off l2 n2 : Nat} {e2 : TypeId} {sz2 : Nat} (hl : σ.h[l]? = some (.hrow e sz xs j off l2 n2)) (hl2 : σ.h[l2]? = some (.row e2 sz2 ys true)) (hn2 : ys.length = n2)
    (hx : xs[j]? = some (.agg cs)) (hx' : xs.set j (.agg (cs.set off (.slice ys))) = xs') : Weak E k σ ⟨σ.t, σ.n, σ.h.set l (.row e sz xs' false)⟩ := by
  intro γ₀ H₀ Φ₀ w₀ a' w _ hR
  obtain ⟨⟨γ, Φ, hok, hs⟩, hn, hd, hl0⟩ := hR
  obtain ⟨g, hg, hO⟩ := hok.inv.gh hl
  obtain ⟨cells, hown, hcl, hsz, h1, hgo, h0, hoff, hlt, hnΦ, hrep, hhole⟩ := hO
  subst hx'
  have hcs : cs.length = sz := hsz _ (List.mem_of_getElem? hx)
  have hyl : (PV.agg (cs.set off (.slice ys))).cells.length = sz := by rw [agg_cells, List.length_set]; exact hcs
  have hfs := fun k => flat_set hsz hx hyl h0 k
  have hsz' : ∀ z ∈ xs.set j (.agg (cs.set off (.slice ys))), z.cells.length = sz := fun z hz => by
    rcases List.mem_or_eq_of_mem_set hz with hz | rfl
    · exact hsz z hz
    · exact hyl
  have hfl := flat_length hsz
  obtain ⟨hdv, hmd⟩ := mul_sz_add (j := j) hoff
  have hk := hok.inv.setObj (o' := .row e sz (xs.set j (.agg (cs.set off (.slice ys)))) false) (g' := g) (w' := w) (Φ' := Φ) hl hg (fun _ _ _ => rfl) (Nat.le_refl _) rfl rfl rfl (fun _ _ h => h) (fun _ _ h _ _ => h) (fun b k h => hok.inv.phi b k h) (fun _ _ _ _ => rfl)
    (fun b hb => ⟨.inl hb, (hok.inv.own l g hg b hb).2⟩) (.inl rfl)
    (fun e1 sz1 n1 hr => by
      simp only [rowLike, Option.some.injEq, Prod.mk.injEq] at hr
      obtain ⟨rfl, rfl, rfl⟩ := hr
      exact ⟨_, rfl, by simp, fun _ => rfl⟩)
    (fun hE => by
      refine ⟨cells, by rw [List.length_set]; exact hown, by rw [hcl, hfl, flat_length hsz', List.length_set], fun q v c hv hc => ?_, hsz', fun c hc => ?_, hgo, h0, fun b hb q => ⟨fun hq => absurd hq (hnΦ b hb q), fun hf => by cases hf⟩⟩
      · rw [hfs] at hc
        by_cases hq : q = j * sz + off
        · subst hq
          rw [if_pos hdv, hmd, agg_cells, List.getElem?_set_self (by omega)] at hc
          injection hc with hc
          subst hc
          exact (toPV_rep hok.inv (hhole v hv) (by simp only [toPV, hl2, if_pos hn2])).mono hE.phi hE.cell
        · split at hc
          · rename_i hqj
            have hmod : q % sz ≠ off := fun e => hq (by
              have := Nat.div_add_mod q sz
              rw [hqj, e, Nat.mul_comm] at this
              exact this.symm)
            rw [agg_cells, List.getElem?_set_ne (Ne.symm hmod)] at hc
            have h3 := flat_at hsz j (q % sz) _ hx (Nat.mod_lt _ h0)
            rw [show j * sz + q % sz = q by have := Nat.div_add_mod q sz; rw [hqj, Nat.mul_comm] at this; exact this] at h3
            exact (hrep q v c hv (by rw [h3]; exact hc) hq).mono hE.phi hE.cell
          · exact (hrep q v c hv hc hq).mono hE.phi hE.cell
      · obtain ⟨q, hq, hqc⟩ := List.getElem_of_mem hc
        have hc' : (flat (xs.set j (.agg (cs.set off (.slice ys)))))[q]? = some c := by rw [List.getElem?_eq_getElem hq, hqc]
        rw [hfs] at hc'
        split at hc'
        · rw [agg_cells] at hc'
          rcases List.mem_or_eq_of_mem_set (List.mem_of_getElem? hc') with h | rfl
          · exact h1 c (flat_mem (List.mem_of_getElem? hx) (by rw [agg_cells]; exact h))
          · rfl
        · exact h1 c (List.mem_of_getElem? hc'))
  exact ⟨⟨_, _, hok.trans hk, fun i => (hs i).mono hk.evo⟩, hn, hd, hl0⟩

end
end Go.Abs

/- The abstract machine, part 45: checks of the printed functions over rows of rows; slices.Clone of any element type, as a function of objects. -/
namespace Go.Abs
open Go.RowKit

/-- The element is the next one. -/
def eqO (a b : Nat) : Option Unit := if b = a then some () else none
/-- The element is one of the first. -/
def ltO (a b : Nat) : Option Unit := if a < b then some () else none
/-- A slice of this length can be made. -/
def mkO (b : Nat) (n : Int) : Option Unit := if 0 ≤ n ∧ n.toNat * b ≤ 140737488355328 then some () else none

theorem eqO_f {a b : Nat} {u : Unit} (h : eqO a b = some u) : b = a := by
  unfold eqO at h
  split at h
  · assumption
  · cases h

theorem ltO_f {a b : Nat} {u : Unit} (h : ltO a b = some u) : a < b := by
  unfold ltO at h
  split at h
  · assumption
  · cases h

theorem mkO_f {b : Nat} {n : Int} {u : Unit} (h : mkO b n = some u) : (0 ≤ n) = True ∧ (n.toNat * b ≤ 140737488355328) = True := by
  unfold mkO at h
  split at h
  · rename_i hc
    exact ⟨eq_true hc.1, eq_true hc.2⟩
  · cases h

theorem bytesPV_zero (n : Nat) : bytesPV (List.replicate n (.int .u8 0)) = some (List.replicate n 0) := bytesPV_rep 0 n

theorem emakeSlice_int {E : Env} {H : List AObj} {ty e a b c : Nat} {z : Option (List PV)} {k k1 k2 : IntKind} {n : Int} (h1 : E.T ty = some ⟨.slice e, a, b, z⟩) (h2 : E.T e = some ⟨.int k, 1, c, some [.int k 0]⟩) (h0 : 0 ≤ n) (hb : n.toNat * c ≤ 140737488355328) (hc : c ≠ 0) :
    emakeSlice E H ty (.pv (.int k1 n)) (.pv (.int k2 n)) = some (.vec H.length n.toNat, H ++ [.row e 1 (List.replicate n.toNat (.int k 0)) false]) := by
  unfold emakeSlice
  simp only [h1, h2, zeroPV]
  rw [if_pos ⟨h0, Int.le_refl _, hb, hc, by decide, rfl⟩]

theorem ownsRow_zero {w : World} {lo : Nat} {e : TypeId} {sz n : Nat} {v : Value} {cells : List Value} (h : w.ownsRow lo e sz v n cells) : w.ownsRow 0 e sz v n cells := by
  refine ⟨h.1, ?_⟩
  rcases h.2 with hn | ⟨g, cap, cur, hv, _, rest⟩
  · exact .inl hn
  · exact .inr ⟨g, cap, cur, hv, Nat.zero_le _, rest⟩

theorem ownsRow_lo {w : World} {lo : Nat} {e : TypeId} {sz n : Nat} {v : Value} {cells : List Value} (h : w.ownsRow lo e sz v n cells) : ∀ b, v.ownBlock = some b → lo ≤ b ∧ b < w.heap.size := by
  intro b hb
  rcases h.2 with ⟨rfl, _⟩ | ⟨g, cap, cur, rfl, hlo, hg, _⟩
  · cases hb
  · have : g = b := Option.some.inj hb
    subst this
    exact ⟨hlo, (Array.getElem?_eq_some_iff.1 hg).1⟩

/-- slices.Clone, at any element type, by its contract. -/
theorem Good.cloneRow {E : Env} {f e sz bytes : Nat} (h0 : 0 < sz)
    (hc : ∀ (b off n c : Nat) (news : List Value) (w : World), news.length = n * sz → n ≤ maxLen → n * bytes ≤ 140737488355328 → (∀ j u, news[j]? = some u → w.cell? ⟨b, off + j, none⟩ = some u) → (∀ u ∈ news, u.oneCell' = true) →
      Calls E.P f #[.slice (some ⟨b, off, none⟩) n c] w fun e' w' => ∃ v', e' = .returned v' ∧ w'.ownsRow w.heap.size e sz v' n news ∧ v' ≠ .slice none 0 0 ∧ Below w.heap.size w w')
    (hz : ∀ (a : Addr) (c : Nat) (w : World), Calls E.P f #[.slice (some a) 0 c] w fun e' w' => ∃ v', e' = .returned v' ∧ w'.ownsRow w.heap.size e sz v' 0 [] ∧ Below w.heap.size w w')
    (hn : ∀ (n c : Nat) (w : World), Calls E.P f #[.slice none n c] w fun e' w' => e' = .returned (.slice none 0 0) ∧ w' = w)
    (xs : List PV) (hb : xs.length * bytes ≤ 140737488355328) (hsz : ∀ x ∈ xs, x.cells.length = sz) : Good E f [.pv (.slice xs)] [] [.vec 0 xs.length] [.row e sz xs false] := by
  intro w Φ γ cargs hI hl hr
  have hγ : γ = [] := List.eq_nil_of_length_eq_zero hI.len
  subst hγ
  match cargs, hl with
  | [a], _ =>
    have fin : ∀ (v' : Value) (cells : List Value) (w' : World), w'.ownsRow w.heap.size e sz v' xs.length cells → Below w.heap.size w w' → cells.length = (flat xs).length → (∀ (k : Nat) u c, cells[k]? = some u → (flat xs)[k]? = some c → Rep Φ w u c) → (∀ c ∈ flat xs, c.one = true) →
        ∃ vs γ' Φ', Ending.returned v' = .returned (retV vs) ∧ Ok E [] [] Φ w γ' [.row e sz xs false] Φ' w' ∧ vs.length = [AV.vec 0 xs.length].length ∧ ∀ (i : Nat) v a, vs[i]? = some v → [AV.vec 0 xs.length][i]? = some a → ARel γ' [.row e sz xs false] Φ' w' v a := by
      intro v' cells w' hown hbl hcl hrep h1
      obtain ⟨A, c, hvs, hA⟩ := ownsRow_slice (ownsRow_zero hown)
      have hlo := ownsRow_lo hown
      refine ⟨[v'], [⟨v', v'.ownBlock.toList⟩], Φ, rfl, ?_, rfl, fun i v b hv hb => ?_⟩
      · exact hI.pushObj (w' := w') (Φ' := Φ) hbl.block hbl.size hbl.os hbl.tape hbl.output (fun _ _ h => h) (fun _ _ h _ => h) (fun b k h => Nat.lt_of_lt_of_le (hI.phi b k h) hbl.size) ⟨v', v'.ownBlock.toList⟩ (.row e sz xs false)
          (fun b hb => hlo b (by simpa using hb)) (fun hE => ⟨cells, ownsRow_zero hown, hcl, fun k u c hu hc => (hrep k u c hu hc).mono hE.phi hE.cell, hsz, h1, rfl, h0, fun b hb k => ⟨fun hk => by
            have := hI.phi b k hk
            have := (hlo b hb).1
            omega, fun hf => by cases hf⟩⟩)
      · match i, hv, hb with
        | 0, hv, hb =>
          cases hv
          cases hb
          rw [hvs]
          exact .vec A 0 xs.length c e sz xs.length rfl (Nat.le_refl _) hA (fun _ => by rw [← hvs]; rfl)
    have hrep := arel_pv (hr 0 a _ rfl rfl)
    cases hrep with
    | sliceNil =>
      refine (hn 0 0 w).mono fun e' w' ⟨he, hw⟩ => ?_
      subst hw
      rw [he]
      exact fin _ [] w' ⟨by simp, .inl ⟨rfl, rfl⟩⟩ (Below.refl _ _) rfl (fun k u c hu _ => by simp at hu) (fun c hc => by simp [flat_nil] at hc)
    | sliceAny A cap hm =>
      refine (hz A cap w).mono fun e' w' ⟨v', he, hown, hbl⟩ => ?_
      rw [he]
      exact fin v' [] w' hown hbl rfl (fun k u c hu _ => by simp at hu) (fun c hc => by simp [flat_nil] at hc)
    | slice b o len cap sz' _ vs hlen hcap hm hsz' h1 hcell hrp =>
      subst hlen
      have hfl := flat_length hsz
      have hnl : ((List.range (xs.length * sz)).map vs).length = xs.length * sz := by simp
      have hget : ∀ (j : Nat) u, ((List.range (xs.length * sz)).map vs)[j]? = some u → j < xs.length * sz ∧ u = vs j := by
        intro j u hu
        have hj : j < xs.length * sz := by
          have := (List.getElem?_eq_some_iff.1 hu).1
          omega
        rw [List.getElem?_map, List.getElem?_range hj] at hu
        exact ⟨hj, (Option.some.inj hu).symm⟩
      have hone : ∀ (j : Nat), j < xs.length * sz → (vs j).oneCell' = true := fun j hj => by
        have hjl : j < (flat xs).length := by omega
        exact (hrp j _ (List.getElem?_eq_getElem hjl)).one (h1 _ (List.getElem_mem hjl))
      refine (hc b o xs.length cap ((List.range (xs.length * sz)).map vs) w hnl (by omega) hb (fun j u hu => ?_) (fun u hu => ?_)).mono fun e' w' ⟨v', he, hown, _, hbl⟩ => ?_
      · obtain ⟨hj, rfl⟩ := hget j u hu
        exact (hcell j (by omega)).2
      · obtain ⟨j, hj, hju⟩ := List.getElem_of_mem hu
        obtain ⟨hj', rfl⟩ := hget j u (by rw [List.getElem?_eq_getElem hj, hju])
        exact hone j hj'
      · rw [he]
        exact fin v' _ w' hown hbl (by rw [hnl, hfl]) (fun k u c hu hc => by
          obtain ⟨_, rfl⟩ := hget k u hu
          exact hrp k c hc) h1

end Go.Abs
