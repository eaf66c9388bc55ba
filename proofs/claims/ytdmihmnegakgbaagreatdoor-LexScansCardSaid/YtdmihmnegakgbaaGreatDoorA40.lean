/- The abstract machine, part 40: the library's variables: what a row says of an interface's. -/
import Derived.Test.YtdmihmnegakgbaaGreatDoorA25
namespace Go.Abs

theorem ifc_of_trod {H : Type} {enc : TypeId × Value → H} {P : Program} {w : World} {base : Nat} {sp : Nat → Bool} {held : Bool} {fuel : Nat} {t : TypeId} {ms : Array (String × TypeId)} {cs : List Value} {x : DataW H × List MemPlace} (ht : P.underlying t = some (.interface ms))
    (h : DataW.trod enc P w base sp held fuel t cs = some x) : ∃ ev, cs = [ev] ∧ (ev = .nilIface ∨ ∃ te pe, ev = .iface te pe) := by
  cases fuel with
  | zero => simp [DataW.trod] at h
  | succ n =>
    unfold DataW.trod at h
    rw [ht] at h
    split at h <;> simp_all

theorem laidVars_ifc {P : Program} {w : World} {n : String} {d : DataW Unit} {g t : Nat} {ms : Array (String × TypeId)} (hg : P.globalNamed n = some g) (hty : (P.globals[g]?).map (·.type) = some t) (ht : P.underlying t = some (.interface ms)) :
    ∀ {l : List (String × DataW Unit)} {ps : List MemPlace}, DataW.LaidVars P w l ps → (n, d) ∈ l → ∃ ev, w.cell? ⟨g, 0, none⟩ = some ev ∧ (ev = .nilIface ∨ ∃ te pe, ev = .iface te pe)
  | [], _, _, hm => by cases hm
  | (n', d') :: r, ps, h, hm => by
    obtain ⟨g', t', cs, fuel, p, q, h1, h2, h3, h4, h5, _⟩ := h
    rcases List.mem_cons.1 hm with e | e
    · cases e
      obtain rfl := Option.some.inj (hg.symm.trans h1)
      obtain rfl := Option.some.inj (hty.symm.trans h2)
      obtain ⟨ev, hev, hk⟩ := ifc_of_trod ht h4
      refine ⟨ev, ?_, hk⟩
      unfold World.var? at h3
      rw [h1] at h3
      simp only [Option.bind_some] at h3
      split at h3
      · rename_i cs' T z hh
        simp only [Option.some.injEq] at h3
        subst h3
        have : cs' = #[ev] := by
          apply Array.ext'
          simpa using hev
        simp [World.cell?, hh, this]
      · cases h3
    · exact laidVars_ifc hg hty ht h5 e

theorem laid_ifc {P : Program} {w : World} {n : String} {d : DataW Unit} {l : List (String × DataW Unit)} {g t : Nat} {ms : Array (String × TypeId)} (h : laidMetH P l w) (hl : (l.all fun x => x.2.handleName?.isNone) = true) (hm : (n, d) ∈ l) (hg : P.globalNamed n = some g) (hty : (P.globals[g]?).map (·.type) = some t)
    (ht : P.underlying t = some (.interface ms)) : ∃ ev, w.cell? ⟨g, 0, none⟩ = some ev ∧ (ev = .nilIface ∨ ∃ te pe, ev = .iface te pe) := by
  rw [MakeChecks.laidMetH_plain _ _ _ hl] at h
  obtain ⟨ps, hv, _⟩ := h
  exact laidVars_ifc hg hty ht hv hm

end Go.Abs
