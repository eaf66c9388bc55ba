import Derived.Test.YtkiajanddmgmnaaDoorA21
/- The abstract machine, part 37: the check of the types whose values are compared field by field. -/
namespace Go.Abs
open Go.RowKit

def ekB : EK → TypeDesc → Bool
  | .bool, .bool => true
  | .str, .string => true
  | .int, .int _ => true
  | _, _ => false

theorem ekB_fits {k : EK} {d : TypeDesc} (h : ekB k d = true) : k.fits d := by
  cases k <;> cases d <;> simp_all [ekB, EK.fits]

def eqFields (P : Program) : Nat → List Field → List EK → Bool
  | _, [], [] => true
  | i, f :: fs, k :: ks => f.name != "_" && f.offset == i && (match P.underlying f.type with
    | some d => ekB k d
    | none => false) && eqFields P (i + 1) fs ks
  | _, _, _ => false

theorem eqFields_sound {P : Program} : ∀ {i : Nat} {fs : List Field} {ks : List EK}, eqFields P i fs ks = true → fs.length = ks.length ∧
    ∀ (j : Nat) f k, fs[j]? = some f → ks[j]? = some k → f.name ≠ "_" ∧ f.offset = i + j ∧ ∃ d, P.underlying f.type = some d ∧ k.fits d
  | _, [], [], _ => ⟨rfl, fun j f k hf => by simp at hf⟩
  | i, f :: fs, k :: ks, h => by
    simp only [eqFields, Bool.and_eq_true, bne_iff_ne, beq_iff_eq] at h
    obtain ⟨⟨⟨h1, h2⟩, h3⟩, h4⟩ := h
    obtain ⟨e1, e2⟩ := eqFields_sound h4
    refine ⟨by simp [e1], fun j g l hg hl => ?_⟩
    cases j with
    | zero =>
      simp only [List.getElem?_cons_zero, Option.some.injEq] at hg hl
      subst hg hl
      refine ⟨h1, h2, ?_⟩
      split at h3
      · rename_i d hd
        exact ⟨d, hd, ekB_fits h3⟩
      · cases h3
    | succ j =>
      rw [List.getElem?_cons_succ] at hg hl
      obtain ⟨a, b, c⟩ := e2 j g l hg hl
      exact ⟨a, by omega, c⟩
  | _, [], _ :: _, h => by simp [eqFields] at h
  | _, _ :: _, [], h => by simp [eqFields] at h

def eqcheck (P : Program) (t : TypeId) (ks : List EK) : Bool :=
  match P.underlying t with
  | some (.struct fields) => !P.stoodInHeld t && !P.eqGuardType P.depth t && eqFields P 0 fields.toList ks
  | _ => false

theorem eqcheck_sound {P : Program} {t : TypeId} {ks : List EK} (h : eqcheck P t ks = true) : EqOne P t ks := by
  unfold eqcheck at h
  split at h
  · rename_i fields hu
    simp only [Bool.and_eq_true, Bool.not_eq_true'] at h
    obtain ⟨⟨h1, h2⟩, h3⟩ := h
    obtain ⟨e1, e2⟩ := eqFields_sound h3
    refine ⟨fields, hu, h1, h2, by simpa using e1, fun j f k hf hk => ?_⟩
    obtain ⟨a, b, c⟩ := e2 j f k (by simpa using hf) hk
    exact ⟨a, by omega, c⟩
  · cases h

def eqtabT (tab : List (TypeId × List EK)) (t : TypeId) : Option (List EK) := (tab.find? fun p => p.1 == t).map (·.2)

theorem eqtabT_sound {P : Program} {tab : List (TypeId × List EK)} (h : tab.all (fun p => eqcheck P p.1 p.2) = true) {t : TypeId} {ks : List EK} (ht : eqtabT tab t = some ks) : EqOne P t ks := by
  unfold eqtabT at ht
  obtain ⟨p, hp, he⟩ := Option.map_eq_some_iff.1 ht
  have h1 := List.all_eq_true.1 h p (List.mem_of_find?_eq_some hp)
  have h2 := List.find?_some hp
  simp only [beq_iff_eq] at h2
  subst h2 he
  exact eqcheck_sound h1

end Go.Abs
