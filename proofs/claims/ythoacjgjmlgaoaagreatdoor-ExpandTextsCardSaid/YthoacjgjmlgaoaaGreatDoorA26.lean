/- The abstract machine, part 26: lengths; clauses. -/
import Derived.Test.YthoacjgjmlgaoaaGreatDoorA23
namespace Go.Abs

/-- A slice within a value. -/
inductive Sub : PV → List PV → Prop
  | here (xs : List PV) : Sub (.slice xs) xs
  | elem {xs : List PV} {x : PV} {ys : List PV} (hx : x ∈ flat xs) (h : Sub x ys) : Sub (.slice xs) ys
  | cell {cs : List PV} {c : PV} {ys : List PV} (hc : c ∈ cs) (h : Sub c ys) : Sub (.agg cs) ys

theorem Rep.sub {Φ : Nat → Nat → Prop} {w : Go.World} {v : Go.Value} {p : PV} (h : Rep Φ w v p) : ∀ ys, Sub p ys → ys.length ≤ Go.maxLen := by
  induction h with
  | bool b => intro ys hs; cases hs
  | int k n => intro ys hs; cases hs
  | str s => intro ys hs; cases hs
  | nil => intro ys hs; cases hs
  | ifc t v => intro ys hs; cases hs
  | sliceNil =>
    intro ys hs
    cases hs with
    | here => exact Nat.zero_le _
    | elem hx h => simp [flat_nil] at hx
  | slice b o len cap sz xs vs hl hc hm hsz h1 hcell hrep ih =>
    intro ys hs
    cases hs with
    | here => omega
    | elem hx h =>
      obtain ⟨k, hk, rfl⟩ := List.getElem_of_mem hx
      exact ih k _ (List.getElem?_eq_getElem hk) ys h
  | sliceAny A cap hm =>
    intro ys hs
    cases hs with
    | here => exact Nat.zero_le _
    | elem hx h => simp [flat_nil] at hx
  | agg vs cs hl h1 hrep ih =>
    intro ys hs
    cases hs with
    | cell hc h =>
      obtain ⟨k, hk, rfl⟩ := List.getElem_of_mem hc
      have hk' : k < vs.length := by omega
      exact ih k vs[k] _ (List.getElem?_eq_getElem hk') (List.getElem?_eq_getElem hk) ys h

/-- The lengths of what an argument holds. -/
theorem Good.sub {E : Env} {f : Go.FuncId} {args : List AV} {H : List AObj} {rs : List AV} {H' : List AObj} (i : Nat) {p : PV} (hi : args[i]? = some (.pv p)) (h : (∀ ys, Sub p ys → ys.length ≤ Go.maxLen) → Good E f args H rs H') : Good E f args H rs H' := by
  intro w Φ γ cargs hI hl hr
  have hlt : i < cargs.length := by
    have := (List.getElem?_eq_some_iff.1 hi).1
    omega
  have hr0 := hr i cargs[i] _ (List.getElem?_eq_getElem hlt) hi
  exact h (fun ys hs => (arel_pv hr0).sub ys hs) w Φ γ cargs hI hl hr

theorem bnot_t {b : Bool} (h : (!b) = true) : b = false := by simpa using h
theorem bnot_f {b : Bool} (h : (!b) = false) : b = true := by simpa using h

/-- A clause for a function of plain values. -/
def pureC (g : List PV → Option (List PV)) (args : List AV) (H : List AObj) : Option (List AV × List AObj) :=
  match allPV args, H with
  | some ps, [] => (g ps).map fun rs => (rs.map AV.pv, [])
  | _, _ => none

theorem allPV_some : ∀ {as : List AV} {ps : List PV}, allPV as = some ps → as = ps.map AV.pv
  | [], ps, h => by simp only [allPV, Option.some.injEq] at h; subst h; rfl
  | a :: as, ps, h => by
    cases a with
    | pv p =>
      simp only [allPV] at h
      obtain ⟨s, hs, rfl⟩ := Option.map_eq_some_iff.1 h
      rw [allPV_some hs]
      rfl
    | _ => simp [allPV] at h

theorem allPV_map : ∀ ps : List PV, allPV (ps.map AV.pv) = some ps
  | [] => rfl
  | p :: ps => by simp [allPV, allPV_map ps]

theorem pureC_good {E : Env} {f : Go.FuncId} {g : List PV → Option (List PV)} (h : ∀ ps rs, g ps = some rs → Good E f (ps.map AV.pv) [] (rs.map AV.pv) []) (args : List AV) (H : List AObj) (rs : List AV) (H' : List AObj) (hc : pureC g args H = some (rs, H')) : Good E f args H rs H' := by
  unfold pureC at hc
  split at hc
  · rename_i ps hps
    obtain ⟨r, hr, he⟩ := Option.map_eq_some_iff.1 hc
    injection he with e1 e2
    subst e1 e2
    rw [allPV_some hps]
    exact h ps r hr
  · cases hc

theorem allPV_pvs : ∀ rs : List PV, ∀ x, allPV (rs.map AV.pv) = some x → x = rs := fun rs x h => by
  rw [allPV_map] at h
  exact (Option.some.inj h).symm

/-- A call of a function of plain values, in a run. -/
theorem qcall_pure {O : Orc} {H : List AObj} {f : Go.FuncId} {args : List AV} {ps rs : List PV} {g : List PV → Option (List PV)} (hf : ∀ ps : List PV, O.C f (ps.map AV.pv) [] = pureC g (ps.map AV.pv) []) (ha : argsPV H args = some ps) (hg : g ps = some rs) : qcall O H f args = some (retAV (rs.map AV.pv)) := by
  unfold qcall
  rw [ha]
  simp only [hf, pureC, allPV_map, hg, Option.map_some]

end Go.Abs
