/- The abstract machine, part 10: how memory may change: new blocks, a new object, an object that changes. -/
import Derived.Test.YthoacjgjmlgaoaaGreatDoorA9
namespace Go.Abs
open Go.RowKit

/-- What was there, and is not ours, is as it was. -/
structure Since (γ₀ : List Gh) (Φ₀ : Nat → Nat → Prop) (w₀ : World) (γ : List Gh) (Φ : Nat → Nat → Prop) (w : World) : Prop where
  os : w.os = w₀.os
  tape : w.tape = w₀.tape
  output : w.output = w₀.output
  size : w₀.heap.size ≤ w.heap.size
  foreign : ∀ b, b < w₀.heap.size → (∀ (i : Nat) g, γ₀[i]? = some g → b ∉ g.own) → w.heap[b]? = w₀.heap[b]?
  phi : ∀ b k, Φ b k → b < w₀.heap.size → (∀ (i : Nat) g, γ₀[i]? = some g → b ∉ g.own) → Φ₀ b k
  own : ∀ (i : Nat) g, γ[i]? = some g → ∀ b ∈ g.own, w₀.heap.size ≤ b ∨ ∃ (j : Nat) (g₀ : Gh), γ₀[j]? = some g₀ ∧ b ∈ g₀.own

theorem Since.refl (γ : List Gh) (Φ : Nat → Nat → Prop) (w : World) : Since γ Φ w γ Φ w :=
  ⟨rfl, rfl, rfl, Nat.le_refl _, fun _ _ _ => rfl, fun _ _ h _ _ => h, fun i g hg _ hb => .inr ⟨i, g, hg, hb⟩⟩

theorem Since.trans {γ₀ γ₁ γ₂ : List Gh} {Φ₀ Φ₁ Φ₂ : Nat → Nat → Prop} {w₀ w₁ w₂ : World} (h : Since γ₀ Φ₀ w₀ γ₁ Φ₁ w₁) (k : Since γ₁ Φ₁ w₁ γ₂ Φ₂ w₂) : Since γ₀ Φ₀ w₀ γ₂ Φ₂ w₂ := by
  have key : ∀ b, b < w₀.heap.size → (∀ (i : Nat) g, γ₀[i]? = some g → b ∉ g.own) → ∀ (i : Nat) g, γ₁[i]? = some g → b ∉ g.own := by
    intro b hb hn i g hg hm
    rcases h.own i g hg b hm with h1 | ⟨j, g₀, hj, hm'⟩
    · omega
    · exact hn j g₀ hj hm'
  refine ⟨k.os.trans h.os, k.tape.trans h.tape, k.output.trans h.output, Nat.le_trans h.size k.size, fun b hb hn => ?_, fun b i hΦ hb hn => ?_, fun i g hg b hb => ?_⟩
  · exact (k.foreign b (Nat.lt_of_lt_of_le hb h.size) (key b hb hn)).trans (h.foreign b hb hn)
  · exact h.phi b i (k.phi b i hΦ (Nat.lt_of_lt_of_le hb h.size) (key b hb hn)) hb hn
  · rcases k.own i g hg b hb with h1 | ⟨j, g₁, hj, hm⟩
    · exact .inl (Nat.le_trans h.size h1)
    · exact h.own j g₁ hj b hm

/-- A state reached from another. -/
structure Ok (E : Env) (γ₀ : List Gh) (H₀ : List AObj) (Φ₀ : Nat → Nat → Prop) (w₀ : World) (γ : List Gh) (H : List AObj) (Φ : Nat → Nat → Prop) (w : World) : Prop where
  inv : OInv E γ H Φ w
  evo : Evo γ₀ H₀ Φ₀ w₀ γ H Φ w
  since : Since γ₀ Φ₀ w₀ γ Φ w

theorem Ok.refl {E : Env} {γ : List Gh} {H : List AObj} {Φ : Nat → Nat → Prop} {w : World} (h : OInv E γ H Φ w) : Ok E γ H Φ w γ H Φ w := ⟨h, .refl _ _ _ _, .refl _ _ _⟩

theorem Ok.trans {E : Env} {γ₀ γ₁ γ₂ : List Gh} {H₀ H₁ H₂ : List AObj} {Φ₀ Φ₁ Φ₂ : Nat → Nat → Prop} {w₀ w₁ w₂ : World} (h : Ok E γ₀ H₀ Φ₀ w₀ γ₁ H₁ Φ₁ w₁) (k : Ok E γ₁ H₁ Φ₁ w₁ γ₂ H₂ Φ₂ w₂) :
    Ok E γ₀ H₀ Φ₀ w₀ γ₂ H₂ Φ₂ w₂ := ⟨k.inv, h.evo.trans k.evo, h.since.trans k.since⟩

section
variable {E : Env} {γ γ' : List Gh} {H H' : List AObj} {Φ Φ' : Nat → Nat → Prop} {w w' : World}

theorem cell_of_heap {b k : Nat} (h : w'.heap[b]? = w.heap[b]?) : w'.cell? ⟨b, k, none⟩ = w.cell? ⟨b, k, none⟩ := World.cell?_of_block (a := ⟨b, k, none⟩) h

theorem ownsRow_of_heap {e : TypeId} {sz n : Nat} {v : Value} {cells : List Value} (h : w.ownsRow 0 e sz v n cells) (hb : ∀ b, v.ownBlock = some b → w'.heap[b]? = w.heap[b]?) : w'.ownsRow 0 e sz v n cells := by
  refine ⟨h.1, ?_⟩
  rcases h.2 with hn | ⟨g, cap, cur, rfl, hg, hgg, rest⟩
  · exact .inl hn
  · exact .inr ⟨g, cap, cur, rfl, hg, (hb g rfl).trans hgg, rest⟩

/-- An object whose blocks have not changed is as it was. -/
theorem ObjRel.keep (hE : Evo γ H Φ w γ' H' Φ' w') {o : AObj} {g : Gh} (hO : ObjRel E γ H Φ w o g) (hblk : ∀ b ∈ g.own, w'.heap[b]? = w.heap[b]?) (hphi : ∀ b ∈ g.own, ∀ k, Φ' b k → Φ b k) :
    ObjRel E γ' H' Φ' w' o g := by
  cases o with
  | var cs =>
    obtain ⟨b, T, vs, hv, ho, hb, hl, hr, hn⟩ := hO
    exact ⟨b, T, vs, hv, ho, (hblk b (by simp [ho])).trans hb, hl, fun k v c h1 h2 => ⟨(hr k v c h1 h2).1, (hr k v c h1 h2).2.mono hE⟩, fun k hk => hn k (hphi b (by simp [ho]) k hk)⟩
  | row e sz xs fz =>
    obtain ⟨cells, hown, hcl, hrep, hsz, h1, ho, h0, hp⟩ := hO
    have hmem : ∀ b, g.v.ownBlock = some b → b ∈ g.own := fun b hb => by rw [ho, hb]; simp
    exact ⟨cells, ownsRow_of_heap hown (fun b hb => hblk b (hmem b hb)), hcl, fun k v c hv hc => (hrep k v c hv hc).mono hE.phi hE.cell, hsz, h1, ho, h0, fun b hb k =>
      ⟨fun hk => (hp b hb k).1 (hphi b (hmem b hb) k hk), fun hf hk => hE.phi _ _ ((hp b hb k).2 hf hk)⟩⟩
  | map es =>
    obtain ⟨b, ents, clock, hv, ho, hb, hs, hr, hn⟩ := hO
    exact ⟨b, ents, clock, hv, ho, (hblk b (by simp [ho])).trans hb, hs, fun k x p hx hp => ⟨(hr k x p hx hp).1.mono hE.phi hE.cell, (hr k x p hx hp).2.mono hE.phi hE.cell⟩, fun k hk => hn k (hphi b (by simp [ho]) k hk)⟩
  | bld s =>
    obtain ⟨b, p, v, hv, ho, hp, hb, hown, hne, hn, hn2⟩ := hO
    have hmem : ∀ c, v.ownBlock = some c → c ∈ g.own := fun c hc => by rw [ho, hc]; simp
    exact ⟨b, p, v, hv, ho, hp, (hblk b (by simp [ho])).trans hb, ownsRow_of_heap hown (fun c hc => hblk c (hmem c hc)), hne, fun k hk => hn k (hphi b (by simp [ho]) k hk), fun c hc k hk => hn2 c hc k (hphi c (hmem c hc) k hk)⟩
  | iter s p =>
    obtain ⟨b, hv, ho, hb, hn⟩ := hO
    exact ⟨b, hv, ho, (hblk b (by simp [ho])).trans hb, fun k hk => hn k (hphi b (by simp [ho]) k hk)⟩
  | gone => trivial

theorem gv_append_left {g : Gh} {l : Nat} (h : l < γ.length) : gv (γ ++ [g]) l = gv γ l := by
  unfold gv
  rw [List.getElem?_append_left h]

theorem gv_some {l : Nat} {v : Value} (h : gv γ l = some v) : ∃ g, γ[l]? = some g ∧ g.v = v := by
  unfold gv at h
  obtain ⟨g, hg, hv⟩ := Option.map_eq_some_iff.1 h
  exact ⟨g, hg, hv⟩

/-- New blocks alone: some of their cells may be for good. -/
theorem OInv.grow (hI : OInv E γ H Φ w) (hw : ∀ b, b < w.heap.size → w'.heap[b]? = w.heap[b]?) (hs : w.heap.size ≤ w'.heap.size) (hos : w'.os = w.os) (htp : w'.tape = w.tape) (hout : w'.output = w.output)
    (hΦ : ∀ b k, Φ b k → Φ' b k) (hΦn : ∀ b k, Φ' b k → b < w.heap.size → Φ b k) (hΦl : ∀ b k, Φ' b k → b < w'.heap.size) : Ok E γ H Φ w γ H Φ' w' := by
  have hE : Evo γ H Φ w γ H Φ' w' := ⟨hΦ, fun b k h => cell_of_heap (hw b (hI.phi b k h)), fun _ _ h => .inl h, fun l e sz xs fz h => ⟨xs, fz, h, Nat.le_refl _, fun _ => rfl⟩⟩
  refine ⟨⟨hI.len, fun l o g ho hg => ?_, hI.disj, fun i g hg b hb => ⟨(hI.own i g hg b hb).1, Nat.lt_of_lt_of_le (hI.own i g hg b hb).2 hs⟩, hΦl, E.hG w w' hI.gi (fun b hb => hw b (Nat.lt_of_lt_of_le hb hI.gn)), Nat.le_trans hI.gn hs⟩, hE,
    ⟨hos, htp, hout, hs, fun b hb _ => hw b hb, fun b k h hb _ => hΦn b k h hb, fun i g hg b hb => .inr ⟨i, g, hg, hb⟩⟩⟩
  exact (hI.obj l o g ho hg).keep hE (fun b hb => hw b (hI.own l g hg b hb).2) (fun b hb k hk => hΦn b k hk (hI.own l g hg b hb).2)

/-- A new object in new blocks. -/
theorem OInv.pushObj (hI : OInv E γ H Φ w) (hw : ∀ b, b < w.heap.size → w'.heap[b]? = w.heap[b]?) (hs : w.heap.size ≤ w'.heap.size) (hos : w'.os = w.os) (htp : w'.tape = w.tape) (hout : w'.output = w.output)
    (hΦ : ∀ b k, Φ b k → Φ' b k) (hΦn : ∀ b k, Φ' b k → b < w.heap.size → Φ b k) (hΦl : ∀ b k, Φ' b k → b < w'.heap.size) (g : Gh) (o : AObj)
    (hown : ∀ b ∈ g.own, w.heap.size ≤ b ∧ b < w'.heap.size) (hO : Evo γ H Φ w (γ ++ [g]) (H ++ [o]) Φ' w' → ObjRel E (γ ++ [g]) (H ++ [o]) Φ' w' o g) : Ok E γ H Φ w (γ ++ [g]) (H ++ [o]) Φ' w' := by
  have hE : Evo γ H Φ w (γ ++ [g]) (H ++ [o]) Φ' w' := by
    refine ⟨hΦ, fun b k h => cell_of_heap (hw b (hI.phi b k h)), fun l v h => .inl ?_, fun l e sz xs fz h => ⟨xs, fz, ?_, Nat.le_refl _, fun _ => ?_⟩⟩
    · obtain ⟨g', hg', _⟩ := gv_some h
      rw [gv_append_left (List.getElem?_eq_some_iff.1 hg').1]
      exact h
    · rw [List.getElem?_append_left (List.getElem?_eq_some_iff.1 h).1]
      exact h
    · rw [gv_append_left (by rw [hI.len]; exact (List.getElem?_eq_some_iff.1 h).1)]
  have old : ∀ (i : Nat) x, (γ ++ [g])[i]? = some x → (i < γ.length ∧ γ[i]? = some x) ∨ (i = γ.length ∧ x = g) := by
    intro i x hx
    by_cases hi : i < γ.length
    · rw [List.getElem?_append_left hi] at hx
      exact .inl ⟨hi, hx⟩
    · rw [List.getElem?_append_right (by omega)] at hx
      have h0 : i - γ.length = 0 := by
        have := (List.getElem?_eq_some_iff.1 hx).1
        simp at this
        omega
      rw [h0] at hx
      simp only [List.getElem?_cons_zero, Option.some.injEq] at hx
      exact .inr ⟨by omega, hx.symm⟩
  refine ⟨⟨by simp [hI.len], fun l o' g' ho hg => ?_, fun i j gi gj hi hj hij b hb => ?_, fun i x hx b hb => ?_, hΦl, E.hG w w' hI.gi (fun b hb => hw b (Nat.lt_of_lt_of_le hb hI.gn)), Nat.le_trans hI.gn hs⟩, hE,
    ⟨hos, htp, hout, hs, fun b hb _ => hw b hb, fun b k h hb _ => hΦn b k h hb, fun i x hx b hb => ?_⟩⟩
  · rcases old l g' hg with ⟨hl, hg'⟩ | ⟨hl, rfl⟩
    · rw [List.getElem?_append_left (by rw [← hI.len]; exact hl)] at ho
      exact (hI.obj l o' g' ho hg').keep hE (fun b hb => hw b (hI.own l g' hg' b hb).2) (fun b hb k hk => hΦn b k hk (hI.own l g' hg' b hb).2)
    · rw [hl, hI.len, List.getElem?_append_right (Nat.le_refl _)] at ho
      simp only [Nat.sub_self, List.getElem?_cons_zero, Option.some.injEq] at ho
      rw [← ho]
      exact hO hE
  · rcases old i gi hi with ⟨hi1, hi'⟩ | ⟨hi1, rfl⟩ <;> rcases old j gj hj with ⟨hj1, hj'⟩ | ⟨hj1, rfl⟩
    · exact hI.disj i j gi gj hi' hj' hij b hb
    · intro hm
      have h1 := (hI.own i gi hi' b hb).2
      have h2 := (hown b hm).1
      omega
    · intro hm
      have h1 := (hI.own j gj hj' b hm).2
      have h2 := (hown b hb).1
      omega
    · omega
  · rcases old i x hx with ⟨_, hx'⟩ | ⟨_, rfl⟩
    · exact ⟨(hI.own i x hx' b hb).1, Nat.lt_of_lt_of_le (hI.own i x hx' b hb).2 hs⟩
    · exact ⟨Nat.le_trans hI.gn (hown b hb).1, (hown b hb).2⟩
  · rcases old i x hx with ⟨_, hx'⟩ | ⟨_, rfl⟩
    · exact .inr ⟨i, x, hx', hb⟩
    · exact .inl (hown b hb).1

theorem set_get {α : Type} {xs : List α} {l i : Nat} {x y : α} (h : (xs.set l x)[i]? = some y) : (i = l ∧ y = x ∧ l < xs.length) ∨ (i ≠ l ∧ xs[i]? = some y) := by
  by_cases hi : i = l
  · subst hi
    have hl : i < xs.length := by
      have := (List.getElem?_eq_some_iff.1 h).1
      simpa using this
    rw [List.getElem?_set_self hl] at h
    simp only [Option.some.injEq] at h
    exact .inl ⟨rfl, h.symm, hl⟩
  · rw [List.getElem?_set_ne (Ne.symm hi)] at h
    exact .inr ⟨hi, h⟩

/-- One object changes, in its own blocks and in new ones. -/
theorem OInv.setObj (hI : OInv E γ H Φ w) {l : Nat} {o o' : AObj} {g g' : Gh} (ho : H[l]? = some o) (hg : γ[l]? = some g)
    (hw : ∀ b, b < w.heap.size → b ∉ g.own → w'.heap[b]? = w.heap[b]?) (hs : w.heap.size ≤ w'.heap.size) (hos : w'.os = w.os) (htp : w'.tape = w.tape) (hout : w'.output = w.output)
    (hΦ : ∀ b k, Φ b k → Φ' b k) (hΦn : ∀ b k, Φ' b k → b < w.heap.size → b ∉ g.own → Φ b k) (hΦl : ∀ b k, Φ' b k → b < w'.heap.size)
    (hcell : ∀ b k, Φ b k → b ∈ g.own → w'.cell? ⟨b, k, none⟩ = w.cell? ⟨b, k, none⟩)
    (hown : ∀ b ∈ g'.own, (b ∈ g.own ∨ w.heap.size ≤ b) ∧ b < w'.heap.size) (hv : g'.v = g.v ∨ ∃ A n c, g.v = .slice A n c)
    (hrow : ∀ e sz xs fz, o = .row e sz xs fz → ∃ xs' fz', o' = .row e sz xs' fz' ∧ xs.length ≤ xs'.length ∧ (xs.length = xs'.length → g'.v = g.v))
    (hO : Evo γ H Φ w (γ.set l g') (H.set l o') Φ' w' → ObjRel E (γ.set l g') (H.set l o') Φ' w' o' g') : Ok E γ H Φ w (γ.set l g') (H.set l o') Φ' w' := by
  have hlg : l < γ.length := (List.getElem?_eq_some_iff.1 hg).1
  have hlH : l < H.length := (List.getElem?_eq_some_iff.1 ho).1
  have gvs : ∀ i, gv (γ.set l g') i = if i = l then some g'.v else gv γ i := by
    intro i
    unfold gv
    by_cases hi : i = l
    · subst hi
      rw [if_pos rfl, List.getElem?_set_self hlg]
      rfl
    · rw [if_neg hi, List.getElem?_set_ne (Ne.symm hi)]
  have hgl : gv γ l = some g.v := by
    unfold gv
    rw [hg]
    rfl
  have hE : Evo γ H Φ w (γ.set l g') (H.set l o') Φ' w' := by
    refine ⟨hΦ, fun b k h => ?_, fun i v h => ?_, fun i e sz xs fz h => ?_⟩
    · by_cases hb : b ∈ g.own
      · exact hcell b k h hb
      · exact cell_of_heap (hw b (hI.phi b k h) hb)
    · rw [gvs i]
      by_cases hi : i = l
      · subst hi
        rw [hgl] at h
        simp only [Option.some.injEq] at h
        subst h
        rw [if_pos rfl]
        rcases hv with h1 | h1
        · exact .inl (by rw [h1])
        · exact .inr h1
      · rw [if_neg hi]
        exact .inl h
    · by_cases hi : i = l
      · subst hi
        rw [ho] at h
        simp only [Option.some.injEq] at h
        obtain ⟨xs', fz', h1, h2, h3⟩ := hrow e sz xs fz h
        refine ⟨xs', fz', ?_, h2, fun hx => ?_⟩
        · rw [List.getElem?_set_self hlH, h1]
        · rw [gvs i, if_pos rfl, hgl, h3 hx]
      · refine ⟨xs, fz, ?_, Nat.le_refl _, fun _ => ?_⟩
        · rw [List.getElem?_set_ne (Ne.symm hi)]
          exact h
        · rw [gvs i, if_neg hi]
  refine ⟨⟨by simp [hI.len], fun i x y hx hy => ?_, fun i j gi gj hi hj hij b hb => ?_, fun i x hx b hb => ?_, hΦl,
    E.hG w w' hI.gi (fun b hb => hw b (Nat.lt_of_lt_of_le hb hI.gn) (fun hm => by have := (hI.own l g hg b hm).1; omega)), Nat.le_trans hI.gn hs⟩, hE,
    ⟨hos, htp, hout, hs, fun b hb hn => hw b hb (hn l g hg), fun b k h hb hn => hΦn b k h hb (hn l g hg), fun i x hx b hb => ?_⟩⟩
  · rcases set_get hy with ⟨rfl, rfl, _⟩ | ⟨hi, hy'⟩
    · rw [List.getElem?_set_self hlH] at hx
      simp only [Option.some.injEq] at hx
      subst hx
      exact hO hE
    · rw [List.getElem?_set_ne (Ne.symm hi)] at hx
      have hd : ∀ b ∈ y.own, b ∉ g.own := hI.disj i l y g hy' hg hi
      exact (hI.obj i x y hx hy').keep hE (fun b hb => hw b (hI.own i y hy' b hb).2 (hd b hb)) (fun b hb k hk => hΦn b k hk (hI.own i y hy' b hb).2 (hd b hb))
  · rcases set_get hi with ⟨rfl, rfl, _⟩ | ⟨hi', hi1⟩ <;> rcases set_get hj with ⟨rfl, rfl, _⟩ | ⟨hj', hj1⟩
    · exact absurd rfl hij
    · intro hm
      rcases (hown b hb).1 with h1 | h1
      · exact hI.disj i j g gj hg hj1 hij b h1 hm
      · have := (hI.own j gj hj1 b hm).2
        omega
    · intro hm
      rcases (hown b hm).1 with h1 | h1
      · exact hI.disj i j gi g hi1 hg hij b hb h1
      · have := (hI.own i gi hi1 b hb).2
        omega
    · exact hI.disj i j gi gj hi1 hj1 hij b hb
  · rcases set_get hx with ⟨rfl, rfl, _⟩ | ⟨hi, hx'⟩
    · refine ⟨?_, (hown b hb).2⟩
      rcases (hown b hb).1 with h1 | h1
      · exact (hI.own i g hg b h1).1
      · exact Nat.le_trans hI.gn h1
    · exact ⟨(hI.own i x hx' b hb).1, Nat.lt_of_lt_of_le (hI.own i x hx' b hb).2 hs⟩
  · rcases set_get hx with ⟨rfl, rfl, _⟩ | ⟨hi, hx'⟩
    · rcases (hown b hb).1 with h1 | h1
      · exact .inr ⟨i, g, hg, h1⟩
      · exact .inl h1
    · exact .inr ⟨i, x, hx', hb⟩

end
end Go.Abs
