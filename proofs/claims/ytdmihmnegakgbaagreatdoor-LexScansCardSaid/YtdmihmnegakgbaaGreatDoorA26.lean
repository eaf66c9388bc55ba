/- The abstract machine, part 26: lengths; clauses. -/
import Derived.Test.YtdmihmnegakgbaaGreatDoorA23
namespace Go.Abs

inductive Sub : PV → List PV → Prop
  | here (xs : List PV) : Sub (.slice xs) xs
  | elem {xs : List PV} {x : PV} {ys : List PV} (hx : x ∈ flat xs) (h : Sub x ys) : Sub (.slice xs) ys
  | cell {cs : List PV} {c : PV} {ys : List PV} (hc : c ∈ cs) (h : Sub c ys) : Sub (.agg cs) ys

theorem Rep.sub {Φ : Nat → Nat → Prop} {w : Go.World} {v : Go.Value} {p : PV} (h : Rep Φ w v p) : ∀ ys, Sub p ys → ys.length ≤ Go.maxLen := by
  induction h with
  | bool b => intro ys hs; cases hs
  | int k n => intro ys hs; cases hs
  | str s => intro ys hs; cases hs
  | nil => intro ys hs; cases hs
  | ifc t v => intro ys hs; cases hs
  | sliceNil =>
    intro ys hs
    cases hs with
    | here => exact Nat.zero_le _
    | elem hx h => simp [flat_nil] at hx
  | slice b o len cap sz xs vs hl hc hm hsz h1 hcell hrep ih =>
    intro ys hs
    cases hs with
    | here => omega
    | elem hx h =>
      obtain ⟨k, hk, rfl⟩ := List.getElem_of_mem hx
      exact ih k _ (List.getElem?_eq_getElem hk) ys h
  | sliceAny A cap hm =>
    intro ys hs
    cases hs with
    | here => exact Nat.zero_le _
    | elem hx h => simp [flat_nil] at hx
  | agg vs cs hl h1 hrep ih =>
    intro ys hs
    cases hs with
    | cell hc h =>
      obtain ⟨k, hk, rfl⟩ := List.getElem_of_mem hc
      have hk' : k < vs.length := by omega
      exact ih k vs[k] _ (List.getElem?_eq_getElem hk') (List.getElem?_eq_getElem hk) ys h

theorem Good.sub {E : Env} {f : Go.FuncId} {args : List AV} {H : List AObj} {rs : List AV} {H' : List AObj} (i : Nat) {p : PV} (hi : args[i]? = some (.pv p)) (h : (∀ ys, Sub p ys → ys.length ≤ Go.maxLen) → Good E f args H rs H') : Good E f args H rs H' := by
  intro w Φ γ cargs hI hl hr
  have hlt : i < cargs.length := by
    have := (List.getElem?_eq_some_iff.1 hi).1
    omega
  have hr0 := hr i cargs[i] _ (List.getElem?_eq_getElem hlt) hi
  exact h (fun ys hs => (arel_pv hr0).sub ys hs) w Φ γ cargs hI hl hr

end Go.Abs
