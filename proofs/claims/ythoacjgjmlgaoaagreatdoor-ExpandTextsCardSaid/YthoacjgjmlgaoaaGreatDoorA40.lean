/- The abstract machine, part 40: the library's variables: what a row says of an interface's. -/
import Derived.Test.YthoacjgjmlgaoaaGreatDoorA25
import Derived.Lib.LaidTab
namespace Go.Abs

theorem ifc_of_trod {H : Type} {enc : TypeId × Value → H} {P : Program} {w : World} {base : Nat} {sp : Nat → Bool} {held : Bool} {fuel : Nat} {t : TypeId} {ms : Array (String × TypeId)} {cs : List Value} {x : DataW H × List MemPlace} (ht : P.underlying t = some (.interface ms))
    (h : DataW.trod enc P w base sp held fuel t cs = some x) : ∃ ev, cs = [ev] ∧ (ev = .nilIface ∨ ∃ te pe, ev = .iface te pe) := by
  cases fuel with
  | zero => simp [DataW.trod] at h
  | succ n =>
    unfold DataW.trod at h
    rw [ht] at h
    split at h <;> simp_all

theorem laidVars_ifc {P : Program} {w : World} {n : String} {d : DataW Unit} {g t : Nat} {ms : Array (String × TypeId)} (hg : P.globalNamed n = some g) (hty : (P.globals[g]?).map (·.type) = some t) (ht : P.underlying t = some (.interface ms)) :
    ∀ {l : List (String × DataW Unit)} {ps : List MemPlace}, DataW.LaidVars P w l ps → (n, d) ∈ l → ∃ ev, w.cell? ⟨g, 0, none⟩ = some ev ∧ (ev = .nilIface ∨ ∃ te pe, ev = .iface te pe)
  | [], _, _, hm => by cases hm
  | (n', d') :: r, ps, h, hm => by
    obtain ⟨g', t', cs, fuel, p, q, h1, h2, h3, h4, h5, _⟩ := h
    rcases List.mem_cons.1 hm with e | e
    · cases e
      obtain rfl := Option.some.inj (hg.symm.trans h1)
      obtain rfl := Option.some.inj (hty.symm.trans h2)
      obtain ⟨ev, hev, hk⟩ := ifc_of_trod ht h4
      refine ⟨ev, ?_, hk⟩
      unfold World.var? at h3
      rw [h1] at h3
      simp only [Option.bind_some] at h3
      split at h3
      · rename_i cs' T z hh
        simp only [Option.some.injEq] at h3
        subst h3
        have : cs' = #[ev] := by
          apply Array.ext'
          simpa using hev
        simp [World.cell?, hh, this]
      · cases h3
    · exact laidVars_ifc hg hty ht h5 e

/-- A variable of an interface's type that is listed holds nil or a value of some type. -/
theorem laid_ifc {P : Program} {w : World} {n : String} {d : DataW Unit} {l : List (String × DataW Unit)} {g t : Nat} {ms : Array (String × TypeId)} (h : laidMetH P l w) (hl : (l.all fun x => x.2.handleName?.isNone) = true) (hm : (n, d) ∈ l) (hg : P.globalNamed n = some g) (hty : (P.globals[g]?).map (·.type) = some t)
    (ht : P.underlying t = some (.interface ms)) : ∃ ev, w.cell? ⟨g, 0, none⟩ = some ev ∧ (ev = .nilIface ∨ ∃ te pe, ev = .iface te pe) := by
  rw [MakeChecks.laidMetH_plain _ _ _ hl] at h
  obtain ⟨ps, hv, _⟩ := h
  exact laidVars_ifc hg hty ht hv hm

theorem laidVars_tab {P : Program} {w : World} {n : String} {k : IntKind} {zs : List Int} {g t e : TypeId} {m : Nat} (hg : P.globalNamed n = some g) (hty : (P.globals[g]?).map (·.type) = some t) (ht : P.underlying t = some (.array m e)) (he : P.underlying e = some (.int k)) (hce : P.cellsOf e = 1) (hct : P.cellsOf t = m) :
    ∀ {l : List (String × DataW Unit)} {ps : List MemPlace}, DataW.LaidVars P w l ps → (n, Lib.tabData k zs) ∈ l → Lib.TabIs P w n k zs
  | [], _, _, hm => by cases hm
  | (n', d') :: r, ps, h, hm => by
    obtain ⟨g', t', cs, fuel, p, q, h1, h2, h3, h4, h5, _⟩ := h
    rcases List.mem_cons.1 hm with e' | e'
    · cases e'
      obtain rfl := Option.some.inj (hg.symm.trans h1)
      obtain rfl := Option.some.inj (hty.symm.trans h2)
      unfold Lib.TabIs
      rw [h3, ← Lib.cells_of_tab ht he hce hct h4]
    · exact laidVars_tab hg hty ht he hce hct h5 e'

/-- A listed table of integers. -/
theorem laid_tab {P : Program} {w : World} {n : String} {k : IntKind} {zs : List Int} {l : List (String × DataW Unit)} {g t e : TypeId} {m : Nat} (h : laidMetH P l w) (hl : (l.all fun x => x.2.handleName?.isNone) = true) (hm : (n, Lib.tabData k zs) ∈ l) (hg : P.globalNamed n = some g) (hty : (P.globals[g]?).map (·.type) = some t)
    (ht : P.underlying t = some (.array m e)) (he : P.underlying e = some (.int k)) (hce : P.cellsOf e = 1) (hct : P.cellsOf t = m) : Lib.TabIs P w n k zs := by
  rw [MakeChecks.laidMetH_plain _ _ _ hl] at h
  obtain ⟨ps, hv, _⟩ := h
  exact laidVars_tab hg hty ht he hce hct hv hm

theorem tabIs_below {P : Program} {w w' : World} {n : String} {k : IntKind} {zs : List Int} {g : Nat} (hg : P.globalNamed n = some g) (h : Lib.TabIs P w n k zs) (hb : w'.heap[g]? = w.heap[g]?) : Lib.TabIs P w' n k zs := by
  unfold Lib.TabIs World.var? at h ⊢
  rw [hg] at h ⊢
  simp only [Option.bind_some] at h ⊢
  rw [hb]
  exact h

end Go.Abs
