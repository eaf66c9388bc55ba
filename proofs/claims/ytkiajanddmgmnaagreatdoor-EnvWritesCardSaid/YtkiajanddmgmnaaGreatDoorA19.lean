import Derived.Test.YtkiajanddmgmnaaGreatDoorA18
/- The abstract machine, part 19: regions, statements, loops. -/
namespace Go.Abs
open Go.RowKit

section
variable {E : Env} {O : Orc} {γ₀ : List Gh} {H₀ : List AObj} {Φ₀ : Nat → Nat → Prop} {w₀ : World} {σ σ' : St} {a : Act} {w : World}

theorem yielded_of {γ : List Gh} {H : List AObj} {Φ : Nat → Nat → Prop} {t : Nat → AV} (hs : Slots γ H Φ w a t) {ops : Array Oper} {j g : Nat} {b : Bool} (hg : (ops[j]?).bind (·.dst) = some g) (hb : t g = .pv (.bool b)) : yielded ops a.tmps j = some b := by
  have h := hs g
  rw [hb] at h
  have hv := rep_bool (arel_pv h)
  have hlt : g < a.tmps.size := by
    rcases Nat.lt_or_ge g a.tmps.size with h1 | h1
    · exact h1
    · rw [Array.getD_eq_getD_getElem?, Array.getElem?_eq_none h1] at hv
      simp [undef] at hv
  have he : a.tmps[g]? = some (.bool b) := by
    rw [Array.getD_eq_getD_getElem?, Array.getElem?_eq_getElem hlt] at hv
    rw [Array.getElem?_eq_getElem hlt]
    exact congrArg some hv
  unfold yielded
  rw [hg]
  simp [he]

theorem undef_rel {γ : List Gh} {H : List AObj} {Φ : Nat → Nat → Prop} : ARel γ H Φ w undef (.tup []) := .tup [] [] rfl (fun k v c hv => by simp at hv)

theorem arel_undef {γ : List Gh} {H : List AObj} {Φ : Nat → Nat → Prop} {v : Value} (h : ARel γ H Φ w v (.tup [])) : v = undef := by
  cases h with
  | tup ws vs hl _ =>
    have : ws = [] := List.eq_nil_of_length_eq_zero hl
    subst this
    rfl

theorem yielded_undef {γ : List Gh} {H : List AObj} {Φ : Nat → Nat → Prop} {t : Nat → AV} (hs : Slots γ H Φ w a t) {ops : Array Oper} {j g : Nat} (hg : (ops[j]?).bind (·.dst) = some g) (hb : t g = .tup []) : yielded ops a.tmps j = none := by
  have h := hs g
  rw [hb] at h
  have hv := arel_undef h
  unfold yielded
  rw [hg]
  simp only [Option.bind_some]
  split
  · rename_i b hb
    rw [Array.getD_eq_getD_getElem?, hb] at hv
    simp [undef] at hv
  · rfl

/-- One operation of a region. -/
theorem astep_sound (hS : Sound E O) {ops : Array Oper} {o : Oper} (h : astep E O ops σ o = some σ') (hR : Rel E γ₀ H₀ Φ₀ w₀ σ a w) {K : Act → World → Prop} {Q : Exit → Act → World → Prop} (hK : ∀ a' w', Rel E γ₀ H₀ Φ₀ w₀ σ' a' w' → K a' w') :
    if Region.wanted o (yielded ops a.tmps) = true then o.wp E.P a w K Q else K (a.put o.dst undef) w := by
  obtain ⟨⟨γ, Φ, hok, hs⟩, hsz, hd, h0⟩ := hR
  have go : ((aop E O σ o).bind fun r => put σ o.dst r.1 r.2) = some σ' → o.wp E.P a w K Q := by
    intro h
    obtain ⟨⟨r, H'⟩, hr, hp⟩ := Option.bind_eq_some_iff.1 h
    exact aop_sound hS hok.inv hs hr (fun u w' γ' Φ' hk hu => hK _ _ (rel_put hok hs hsz hd h0 hk (.inr hu) hp))
  unfold astep at h
  split at h
  · rename_i hg
    rw [if_pos (by simp [Region.wanted, hg])]
    exact go h
  · rename_i j want hg
    split at h
    · rename_i g hgd
      split at h
      · rename_i b hb
        have hy := yielded_of hs hgd hb
        split at h
        · rename_i hbw
          rw [if_pos (by simp [Region.wanted, hg, hy, hbw])]
          exact go h
        · rename_i hbw
          rw [if_neg (by simp [Region.wanted, hg, hy, hbw])]
          exact hK _ _ (rel_put hok hs hsz hd h0 (.refl hok.inv) (.inr undef_rel) h)
      · rename_i hb
        have hy := yielded_undef hs hgd hb
        rw [if_neg (by simp [Region.wanted, hg, hy])]
        exact hK _ _ (rel_put hok hs hsz hd h0 (.refl hok.inv) (.inr undef_rel) h)
      · cases h
    · cases h

theorem arun_sound (hS : Sound E O) {ops : Array Oper} {Q : Exit → Act → World → Prop} : ∀ (l : List Oper) (σ : St) (a : Act) (w : World), arun E O ops l σ = some σ' → Rel E γ₀ H₀ Φ₀ w₀ σ a w →
    (∀ a' w', Rel E γ₀ H₀ Φ₀ w₀ σ' a' w' → Q .normal a' w') → wpList E.P ops Q l a w
  | [], σ, a, w, h, hR, hQ => by
    simp only [arun, Option.some.injEq] at h
    subst h
    exact hQ a w hR
  | o :: l, σ, a, w, h, hR, hQ => by
    obtain ⟨σ1, h1, h2⟩ := Option.bind_eq_some_iff.1 h
    exact wpList_step fun K hK => astep_sound hS h1 hR (fun a' w' hR' => hK a' w' (arun_sound hS l σ1 a' w' h2 hR' hQ))

/-- From a state, over k objects that came in, the code ends as Q says. -/
def AW (E : Env) (k : Nat) (c : Code) (Q : Exit → St → Prop) (σ : St) : Prop :=
  ∀ γ₀ H₀ Φ₀ w₀ a w, H₀.length = k → Rel E γ₀ H₀ Φ₀ w₀ σ a w → c.wp E.P (fun e a' w' => ∃ σ', Rel E γ₀ H₀ Φ₀ w₀ σ' a' w' ∧ Q e σ') a w

def thenQ (next : St → Prop) (Q : Exit → St → Prop) : Exit → St → Prop
  | .normal, σ => next σ
  | e, σ => Q e σ

def blockQ (id : Nat) (Q : Exit → St → Prop) : Exit → St → Prop
  | .exit id', σ => if id' = id then Q .normal σ else Q (.exit id') σ
  | e, σ => Q e σ

variable {Q : Exit → St → Prop} {k : Nat}

theorem AW.mono {c : Code} {Q' : Exit → St → Prop} (h : AW E k c Q σ) (hq : ∀ e σ, Q e σ → Q' e σ) : AW E k c Q' σ :=
  fun γ₀ H₀ Φ₀ w₀ a w hl hR => wp_mono (h γ₀ H₀ Φ₀ w₀ a w hl hR) (fun e _ _ ⟨σ', hR', hQ⟩ => ⟨σ', hR', hq e σ' hQ⟩)

theorem AW.region (hS : Sound E O) {id : Nat} {ops : Array Oper} (h : arun E O ops ops.toList σ = some σ') (hQ : Q .normal σ') : AW E k (.region id ops false) Q σ :=
  fun _ _ _ _ a w _ hR => wp_region_list (arun_sound hS ops.toList σ a w h hR (fun _ _ hR' => ⟨σ', hR', hQ⟩))

theorem AW.seq {x y : Code} (h : AW E k x (thenQ (AW E k y Q) Q) σ) : AW E k (.seq x y) Q σ := by
  intro γ₀ H₀ Φ₀ w₀ a w hl hR
  refine wp_seq (wp_mono (h γ₀ H₀ Φ₀ w₀ a w hl hR) (fun e a' w' ⟨σ', hR', hQ⟩ => ?_))
  cases e with
  | normal => exact hQ γ₀ H₀ Φ₀ w₀ a' w' hl hR'
  | _ => exact ⟨σ', hR', hQ⟩

theorem AW.cond {c : Operand} {x y : Code} {b : Bool} (hc : ev σ.t c = .pv (.bool b)) (ht : b = true → AW E k x Q σ) (hf : b = false → AW E k y Q σ) : AW E k (.cond c x y) Q σ := by
  intro γ₀ H₀ Φ₀ w₀ a w hl hR
  have hR' := hR
  obtain ⟨⟨γ, Φ, hok, hs⟩, _, _, _⟩ := hR'
  have h := ev_rel hs c
  rw [hc] at h
  exact wp_cond_split (rep_bool (arel_pv h)) (fun hb => ht hb γ₀ H₀ Φ₀ w₀ a w hl hR) (fun hb => hf hb γ₀ H₀ Φ₀ w₀ a w hl hR)

theorem AW.skip (h : Q .normal σ) : AW E k .skip Q σ := fun _ _ _ _ _ _ _ hR => wp_skip ⟨σ, hR, h⟩
theorem AW.ret (h : Q .ret σ) : AW E k .ret Q σ := fun _ _ _ _ _ _ _ hR => wp_ret ⟨σ, hR, h⟩
theorem AW.exit {id : Nat} (h : Q (.exit id) σ) : AW E k (.exit id) Q σ := fun _ _ _ _ _ _ _ hR => wp_exit ⟨σ, hR, h⟩

theorem AW.block {id : Nat} {c : Code} (h : AW E k c (blockQ id Q) σ) : AW E k (.block id c) Q σ := by
  intro γ₀ H₀ Φ₀ w₀ a w hl hR
  refine wp_block (wp_mono (h γ₀ H₀ Φ₀ w₀ a w hl hR) (fun e a' w' ⟨σ', hR', hQ⟩ => ?_))
  cases e with
  | exit id' =>
    simp only [blockQ] at hQ
    simp only [Exit.inBlock]
    split
    · rename_i he
      rw [if_pos he] at hQ
      exact ⟨σ', hR', hQ⟩
    · rename_i he
      rw [if_neg he] at hQ
      exact ⟨σ', hR', hQ⟩
  | _ => exact ⟨σ', hR', hQ⟩

/-- One state says less than another (over k objects that came in). -/
def Weak (E : Env) (k : Nat) (σ σ' : St) : Prop := ∀ γ₀ H₀ Φ₀ w₀ a w, H₀.length = k → Rel E γ₀ H₀ Φ₀ w₀ σ a w → Rel E γ₀ H₀ Φ₀ w₀ σ' a w

theorem Weak.refl (σ : St) : Weak E k σ σ := fun _ _ _ _ _ _ _ h => h
theorem Weak.trans {σ₁ σ₂ σ₃ : St} (h : Weak E k σ₁ σ₂) (h' : Weak E k σ₂ σ₃) : Weak E k σ₁ σ₃ := fun _ _ _ _ _ _ hl hR => h' _ _ _ _ _ _ hl (h _ _ _ _ _ _ hl hR)

theorem AW.weak {c : Code} (hw : Weak E k σ σ') (h : AW E k c Q σ') : AW E k c Q σ := fun γ₀ H₀ Φ₀ w₀ a w hl hR => h γ₀ H₀ Φ₀ w₀ a w hl (hw γ₀ H₀ Φ₀ w₀ a w hl hR)

theorem least (p : Nat → Prop) (h : ∃ n, p n) : ∃ n, p n ∧ ∀ m, p m → n ≤ m := by
  obtain ⟨n, hn⟩ := h
  induction n using Nat.strongRecOn with
  | _ n ih =>
    by_cases hm : ∃ m, m < n ∧ p m
    · obtain ⟨m, hlt, hpm⟩ := hm
      exact ih m hlt hpm
    · exact ⟨n, hn, fun m hpm => Nat.le_of_not_lt fun hlt => hm ⟨m, hlt, hpm⟩⟩

open Classical in
/-- A loop: its relation, its measure; the state may be weakened at the round's end. -/
theorem AW.loop {c : Code} (I : St → Prop) (μ : St → Nat) (h0 : I σ) (hr : ∀ σ, I σ → AW E k c (thenQ (fun σ' => ∃ σ'', Weak E k σ' σ'' ∧ I σ'' ∧ μ σ'' < μ σ) Q) σ) : AW E k (.loop c) Q σ := by
  intro γ₀ H₀ Φ₀ w₀ a w hl hR
  let p : Act → World → Nat → Prop := fun a w n => ∃ σ, Rel E γ₀ H₀ Φ₀ w₀ σ a w ∧ I σ ∧ μ σ = n
  let m : Act → World → Nat := fun a w => if h : ∃ n, p a w n then Classical.choose (least (p a w) h) else 0
  have hm : ∀ a w, (∃ n, p a w n) → p a w (m a w) ∧ ∀ n, p a w n → m a w ≤ n := by
    intro a w h
    have := Classical.choose_spec (least (p a w) h)
    simp only [m, dif_pos h]
    exact this
  refine wp_loop (fun a w => ∃ n, p a w n) m ⟨μ σ, σ, hR, h0, rfl⟩ (fun a w hI => ?_)
  obtain ⟨⟨σ1, hR1, hI1, hμ1⟩, hmin⟩ := hm a w hI
  refine wp_mono (hr σ1 hI1 γ₀ H₀ Φ₀ w₀ a w hl hR1) (fun e a' w' ⟨σ', hR', hQ⟩ => ?_)
  cases e with
  | normal =>
    obtain ⟨σ'', hw, hI2, hlt⟩ := hQ
    have hR2 := hw γ₀ H₀ Φ₀ w₀ a' w' hl hR'
    have hex : ∃ n, p a' w' n := ⟨μ σ'', σ'', hR2, hI2, rfl⟩
    exact ⟨hex, by have := (hm a' w' hex).2 (μ σ'') ⟨σ'', hR2, hI2, rfl⟩; omega⟩
  | _ => exact ⟨σ', hR', hQ⟩

end
end Go.Abs
