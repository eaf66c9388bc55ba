/- The abstract machine, part 27: maps from strings to numbers. -/
import Derived.Test.YtdmihmnegakgbaaGreatDoorA26
namespace Go.Abs

def mp (m : List (List UInt8 × Int)) : List (PV × PV) := m.map fun x => (.str x.1, .int .i64 x.2)

theorem sl_scr {m : Nat} : ∀ {L : List (Nat × AV)}, (L.all fun p => p.2.ltB m) = true → ∀ i, scr m (sl L i) = sl L i
  | [], _, i => rfl
  | (j, v) :: r, h, i => by
    simp only [List.all_cons, Bool.and_eq_true] at h
    simp only [sl]
    split
    · unfold scr
      rw [if_pos h.1]
    · exact sl_scr h.2 i

theorem Weak.cut {E : Env} {k m n : Nat} {L : List (Nat × AV)} {H H' : List AObj} (hk : k ≤ m) (hH : H.take m = H') (ho : H'.all (AObj.ltB m) = true) (hL : (L.all fun p => p.2.ltB m) = true) : Weak E k ⟨sl L, n, H⟩ ⟨sl L, n, H'⟩ := by
  have h := Weak.scrub (E := E) (σ := ⟨sl L, n, H⟩) hk (by rw [hH]; exact ho)
  have e : Go.Abs.scrub m ⟨sl L, n, H⟩ = ⟨sl L, n, H'⟩ := by
    unfold Go.Abs.scrub
    simp only [hH]
    congr 1
    funext i
    exact sl_scr hL i
  rw [e] at h
  exact h

end Go.Abs
