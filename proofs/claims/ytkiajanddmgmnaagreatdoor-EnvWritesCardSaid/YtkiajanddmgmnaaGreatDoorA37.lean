import Derived.Test.YtkiajanddmgmnaaGreatDoorA21
/- The abstract machine, part 37: the check of the types whose values are compared field by field. -/
namespace Go.Abs
open Go.RowKit

def ekB : EK → TypeDesc → Bool
  | .bool, .bool => true
  | .str, .string => true
  | .int, .int _ => true
  | _, _ => false

theorem ekB_fits {k : EK} {d : TypeDesc} (h : ekB k d = true) : k.fits d := by
  cases k <;> cases d <;> simp_all [ekB, EK.fits]

def eqFieldsN (P : Program) : Nat → Nat → List Field → List EK → Bool
  | _, _, [], [] => true
  | n + 1, i, f :: fs, ks => f.name != "_" && f.offset == i && (match P.underlying f.type with
    | some (.struct sub) => (match P.info? f.type with
      | some inf => !P.stoodInHeld f.type && decide (inf.size ≤ ks.length) && eqFieldsN P n 0 sub.toList (ks.take inf.size) && eqFieldsN P n (i + inf.size) fs (ks.drop inf.size)
      | none => false)
    | some d => (match ks with
      | k :: ks => ekB k d && eqFieldsN P n (i + 1) fs ks
      | [] => false)
    | none => false)
  | _, _, _, _ => false

theorem eqFieldsN_sound {P : Program} : ∀ {n i : Nat} {fs : List Field} {ks : List EK}, eqFieldsN P n i fs ks = true → FitsF P n fs i ks
  | n, i, [], [], _ => .nil n i
  | 0, i, [], k :: ks, h => by simp [eqFieldsN] at h
  | n + 1, i, [], k :: ks, h => by simp [eqFieldsN] at h
  | 0, i, f :: fs, ks, h => by simp [eqFieldsN] at h
  | n + 1, i, f :: fs, ks, h => by
    simp only [eqFieldsN, Bool.and_eq_true, bne_iff_ne, beq_iff_eq] at h
    obtain ⟨⟨h1, h2⟩, h3⟩ := h
    split at h3
    · rename_i sub hd
      split at h3
      · rename_i inf hi
        simp only [Bool.and_eq_true, Bool.not_eq_true', decide_eq_true_eq] at h3
        obtain ⟨⟨⟨g1, g2⟩, g3⟩, g4⟩ := h3
        have hl : (ks.take inf.size).length = inf.size := by rw [List.length_take]; omega
        have := FitsF.sub (P := P) h1 h2 hd g1 hi hl.symm (eqFieldsN_sound g3) (by rw [hl]; exact eqFieldsN_sound g4)
        rwa [List.take_append_drop] at this
      · cases h3
    · rename_i d hns hd
      split at h3
      · rename_i k ks
        simp only [Bool.and_eq_true] at h3
        exact .one h1 h2 hd (ekB_fits h3.1) (eqFieldsN_sound h3.2)
      · cases h3
    · cases h3

def eqcheck (P : Program) (t : TypeId) (ks : List EK) : Bool :=
  match P.underlying t with
  | some (.struct fields) => !P.stoodInHeld t && !P.eqGuardType P.depth t && eqFieldsN P 100 0 fields.toList ks
  | _ => false

theorem eqcheck_sound {P : Program} {t : TypeId} {ks : List EK} (h : eqcheck P t ks = true) : EqOne P t ks := by
  unfold eqcheck at h
  split at h
  · rename_i fields hu
    simp only [Bool.and_eq_true, Bool.not_eq_true'] at h
    obtain ⟨⟨h1, h2⟩, h3⟩ := h
    exact ⟨fields, hu, h1, h2, 100, by omega, eqFieldsN_sound h3⟩
  · cases h

def eqtabT (tab : List (TypeId × List EK)) (t : TypeId) : Option (List EK) := (tab.find? fun p => p.1 == t).map (·.2)

theorem eqtabT_sound {P : Program} {tab : List (TypeId × List EK)} (h : tab.all (fun p => eqcheck P p.1 p.2) = true) {t : TypeId} {ks : List EK} (ht : eqtabT tab t = some ks) : EqOne P t ks := by
  unfold eqtabT at ht
  obtain ⟨p, hp, he⟩ := Option.map_eq_some_iff.1 ht
  have h1 := List.all_eq_true.1 h p (List.mem_of_find?_eq_some hp)
  have h2 := List.find?_some hp
  simp only [beq_iff_eq] at h2
  subst h2 he
  exact eqcheck_sound h1

end Go.Abs
