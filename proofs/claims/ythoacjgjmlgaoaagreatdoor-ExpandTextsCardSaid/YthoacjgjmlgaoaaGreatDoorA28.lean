/- The abstract machine, part 28: functions of the library, by their contracts. -/
import Derived.Test.YthoacjgjmlgaoaaGreatDoorA27
import Derived.Below
namespace Go.Abs
open Go.RowKit

/-- A function known by a contract: it takes and gives plain values; what it leaves below the old heap is as it was. -/
theorem Good.lib {E : Env} {f : FuncId} {ps rs : List PV}
    (h : ∀ (w : World) (Φ : Nat → Nat → Prop) (vs : List Value), E.GI w → (∀ b k, Φ b k → b < w.heap.size) → vs.length = ps.length → (∀ (i : Nat) v p, vs[i]? = some v → ps[i]? = some p → Rep Φ w v p) →
      Calls E.P f ⟨vs⟩ w fun e w' => ∃ (us : List Value) (Φ' : Nat → Nat → Prop), e = .returned (retV us) ∧ us.length = rs.length ∧ Below w.heap.size w w' ∧ (∀ b k, Φ b k → Φ' b k) ∧ (∀ b k, Φ' b k → b < w.heap.size → Φ b k) ∧ (∀ b k, Φ' b k → b < w'.heap.size) ∧
        ∀ (i : Nat) u r, us[i]? = some u → rs[i]? = some r → Rep Φ' w' u r) : Good E f (ps.map AV.pv) [] (rs.map AV.pv) [] := by
  intro w Φ γ cargs hI hl hr
  refine (h w Φ cargs hI.gi hI.phi (by simpa using hl) (fun i v p hv hp => ?_)).mono fun e w' ⟨us, Φ', he, hul, hb, h1, h2, h3, h4⟩ => ?_
  · exact arel_pv (hr i v (.pv p) hv (by rw [List.getElem?_map, hp]; rfl))
  · refine ⟨us, γ, Φ', he, hI.grow hb.block hb.size hb.os hb.tape hb.output h1 h2 h3, by simpa using hul, fun i v a hv ha => ?_⟩
    rw [List.getElem?_map] at ha
    obtain ⟨p, hp, rfl⟩ := Option.map_eq_some_iff.1 ha
    exact .pv (h4 i v p hv hp)

theorem strs_cells {Φ : Nat → Nat → Prop} {w : World} {v : Value} {xs : List (List UInt8)} (h : Rep Φ w v (.slice (xs.map PV.str))) :
    (v = .slice none 0 0 ∧ xs = []) ∨ (∃ A cap, v = .slice (some A) 0 cap ∧ xs = [] ∧ cap ≤ maxLen) ∨
    ∃ b o cap, v = .slice (some ⟨b, o, none⟩) xs.length cap ∧ xs.length ≤ cap ∧ cap ≤ maxLen ∧ ∀ (k : Nat) x, xs[k]? = some x → Φ b (o + k) ∧ w.cell? ⟨b, o + k, none⟩ = some (.string ⟨⟨x⟩⟩) := by
  generalize hp : PV.slice (xs.map PV.str) = p at h
  cases h with
  | sliceNil =>
    injection hp with hp
    exact .inl ⟨rfl, by simpa using hp⟩
  | sliceAny A cap hm =>
    injection hp with hp
    exact .inr (.inl ⟨A, cap, rfl, by simpa using hp, hm⟩)
  | slice b o len cap sz ys vs hl hc hm hsz h1 hcell hrep =>
    injection hp with hp
    subst hp
    have hfl : flat (xs.map PV.str) = xs.map PV.str := by
      induction xs with
      | nil => rfl
      | cons x xs ih =>
        rw [List.map_cons, flat_cons]
        show PV.str x :: flat (xs.map PV.str) = _
        have : ∀ ys : List (List UInt8), flat (ys.map PV.str) = ys.map PV.str := by
          intro ys
          induction ys with
          | nil => rfl
          | cons y ys ih => rw [List.map_cons, flat_cons, ih]; rfl
        rw [this]
    simp only [List.length_map] at hl
    subst hl
    refine .inr (.inr ⟨b, o, cap, rfl, hc, hm, fun k x hx => ?_⟩)
    rw [hfl] at hcell hrep
    have hk : k < xs.length := (List.getElem?_eq_some_iff.1 hx).1
    obtain ⟨hφ, hcl⟩ := hcell k (by simpa using hk)
    have hr := hrep k (.str x) (by rw [List.getElem?_map, hx]; rfl)
    generalize vs k = u at hr hcl
    cases hr with
    | str s => exact ⟨hφ, hcl⟩
  | bool b => cases hp
  | int k n => cases hp
  | str s => cases hp
  | nil => cases hp
  | ifc t v => cases hp
  | agg vs cs hl h1 hrep => cases hp

end Go.Abs
