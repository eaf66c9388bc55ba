import Derived.Test.YtkiajanddmgmnaaGreatDoorA16
import Derived.Tactics
/- The abstract machine, part 17: states, oracles, one step, a region in the order of its text. -/
namespace Go.Abs
open Go.RowKit

structure St where
  t : Nat → AV
  n : Nat
  h : List AObj

/-- What is known of the functions: their results, and which of them take and give plain values alone. -/
structure Orc where
  C : FuncId → List AV → List AObj → Option (List AV × List AObj)
  pf : FuncId → Bool

def retAV : List AV → AV
  | [r] => r
  | rs => .tup rs

def retV : List Value → Value
  | [v] => v
  | vs => .tuple ⟨vs⟩

/-- A call f(args) over these objects returns rs, and leaves H'. -/
def Good (E : Env) (f : FuncId) (args : List AV) (H : List AObj) (rs : List AV) (H' : List AObj) : Prop :=
  ∀ (w : World) (Φ : Nat → Nat → Prop) (γ : List Gh) (cargs : List Value), OInv E γ H Φ w → cargs.length = args.length → (∀ (i : Nat) v a, cargs[i]? = some v → args[i]? = some a → ARel γ H Φ w v a) →
    Calls E.P f ⟨cargs⟩ w fun e w' => ∃ vs γ' Φ', e = .returned (retV vs) ∧ Ok E γ H Φ w γ' H' Φ' w' ∧ vs.length = rs.length ∧ ∀ (i : Nat) v a, vs[i]? = some v → rs[i]? = some a → ARel γ' H' Φ' w' v a

def Sound (E : Env) (O : Orc) : Prop := ∀ f args H rs H', O.C f args H = some (rs, H') → Good E f args H rs H' ∧ ∃ fn, E.P.funcs[f]? = some fn ∧ fn.body.isSome = true ∧ (fn.name == "runtime.NumGoroutine") = false

def argsPV (H : List AObj) : List AV → Option (List PV)
  | [] => some []
  | a :: r => match toPV H a, argsPV H r with
    | some p, some s => some (p :: s)
    | _, _ => none

def qcall (O : Orc) (H : List AObj) (f : FuncId) (args : List AV) : Option AV :=
  match argsPV H args with
  | some ps => match O.C f (ps.map AV.pv) [] with
    | some (rs, []) => match allPV rs with
      | some _ => some (retAV rs)
      | none => none
    | _ => none
  | none => none

def cellLocs : List AV → List Nat
  | [] => []
  | .ref l _ :: r | .mref l :: r | .vec l _ :: r | .vptr l _ _ _ :: r => l :: cellLocs r
  | .fn _ caps :: r => caps ++ cellLocs r
  | _ :: r => cellLocs r

/-- The places of the objects that these arguments name. -/
def locsOf (H : List AObj) : List AV → List Nat
  | [] => []
  | a :: r => (match toPV H a with
    | some _ => []
    | none => match a with
      | .ref l _ | .mref l | .vec l _ | .vptr l _ _ _ => [l]
      | .fn _ caps => caps
      | .agg vs => cellLocs vs
      | _ => []) ++ locsOf H r

def innerLocs (H : List AObj) : List Nat → List Nat
  | [] => []
  | l :: r => (match H[l]? with
    | some (.var cs) => cellLocs cs
    | some (.hrow _ _ _ _ _ l _) => [l]
    | _ => []) ++ innerLocs H r

def dedup : List Nat → List Nat
  | [] => []
  | x :: r => if (dedup r).contains x then dedup r else x :: dedup r

theorem dedup_nodup : ∀ l : List Nat, (dedup l).Nodup
  | [] => by simp [dedup]
  | x :: r => by
    unfold dedup
    split
    · exact dedup_nodup r
    · rename_i h
      exact List.nodup_cons.2 ⟨by simpa using h, dedup_nodup r⟩

def renArgs (H : List AObj) (f : Nat → Option Nat) : List AV → Option (List AV)
  | [] => some []
  | a :: r => match (match toPV H a with | some p => some (AV.pv p) | none => a.ren f), renArgs H f r with
    | some b, some s => some (b :: s)
    | _, _ => none

def ecall (O : Orc) (H : List AObj) (f : FuncId) (args : List AV) : Option (AV × List AObj) :=
  let base := locsOf H args
  let sel := dedup (base ++ innerLocs H base)
  match selObjs H (idx sel) sel, renArgs H (idx sel) args with
  | some Hs, some as => match O.C f as Hs with
    | some (rs, H') => if sel.length ≤ H'.length then some (retAV (rs.map (AV.mapL (backN H.length sel))), backObjs H sel H') else none
    | none => none
  | _, _ => none

def aop (E : Env) (O : Orc) (σ : St) (o : Oper) : Option (AV × List AObj) :=
  match o.op with
  | .alloc ty => ealloc E σ.h ty
  | .box _ x => ebox σ.h (ev σ.t x)
  | .buildSlice ty len parts => if (len == 0 && E.ownT ty) = true then ebuildOwn E σ.h ty len (parts.toList.map fun p => (p.1, ev σ.t p.2)) else ebuildSlice E σ.h ty len (parts.toList.map fun p => (p.1, ev σ.t p.2))
  | .store ty p x => (estore E σ.h ty (ev σ.t p) (ev σ.t x)).map fun h => (.any, h)
  | .makeMap _ none => emakeMap σ.h 0
  | .makeSlice ty a b => emakeSlice E σ.h ty (ev σ.t a) (ev σ.t b)
  | .mapUpdate ty m k v => (emapUpdate E σ.h ty (ev σ.t m) (ev σ.t k) (ev σ.t v)).map fun h => (.any, h)
  | .insert ty m k v => (emapUpdate E σ.h ty (ev σ.t m) (ev σ.t k) (ev σ.t v)).map fun h => (.any, h)
  | .call ⟨.builtin .append, args, ats⟩ => match args.toList, ats.toList with
    | [x, y], [t1, t2] => if t1 = t2 then eappend E σ.h t1 (ev σ.t x) (ev σ.t y) else none
    | _, _ => none
  | .call ⟨.value (.func f), args, _⟩ => if O.pf f then (qcall O σ.h f (args.toList.map (ev σ.t))).map fun r => (r, σ.h) else ecall O σ.h f (args.toList.map (ev σ.t))
  | .call ⟨.value (.tmp i), args, _⟩ => match σ.t i with
    | .fn f caps => if O.pf f then (qcall O σ.h f (args.toList.map (ev σ.t) ++ caps.map fun l => .ref l 0)).map fun r => (r, σ.h) else ecall O σ.h f (args.toList.map (ev σ.t) ++ caps.map fun l => .ref l 0)
    | _ => none
  | .call ⟨.builtin .min, args, _⟩ => (qmm false (args.toList.map (ev σ.t))).map fun r => (r, σ.h)
  | .call ⟨.builtin .max, args, _⟩ => (qmm true (args.toList.map (ev σ.t))).map fun r => (r, σ.h)
  | .build ty ps => if E.ownT ty then (qbuildA E.T ty (ps.toList.map fun p => (p.1, ev σ.t p.2))).map fun r => (r, σ.h) else (qval E.T σ.t σ.h (.build ty ps)).map fun r => (r, σ.h)
  | .range ty x => erange E σ.h ty (ev σ.t x)
  | .next x s => enext σ.h (ev σ.t x) s
  | .binOp op ty x y _ => if isNil y then (qnil2 E.T op ty (ev σ.t x)).map fun r => (r, σ.h) else match E.eqT ty with
    | some ks => (qeq ks op (ev σ.t x) (ev σ.t y)).map fun r => (r, σ.h)
    | none => (qbin E.T op ty (ev σ.t x) (ev σ.t y)).map fun r => (r, σ.h)
  | op => (qval E.T σ.t σ.h op).map fun r => (r, σ.h)

def put (σ : St) (dst : Option Nat) (v : AV) (h : List AObj) : Option St :=
  match dst with
  | none => some { σ with h := h }
  | some d => if d < σ.n then some { t := upd σ.t d v, n := σ.n, h := h } else none

def astep (E : Env) (O : Orc) (ops : Array Oper) (σ : St) (o : Oper) : Option St :=
  match o.guard with
  | none => (aop E O σ o).bind fun r => put σ o.dst r.1 r.2
  | some (j, want) => match (ops[j]?).bind (·.dst) with
    | some g => match σ.t g with
      | .pv (.bool b) => if b = want then (aop E O σ o).bind fun r => put σ o.dst r.1 r.2 else put σ o.dst (.tup []) σ.h
      | .tup [] => put σ o.dst (.tup []) σ.h
      | _ => none
    | none => none

def arun (E : Env) (O : Orc) (ops : Array Oper) : List Oper → St → Option St
  | [], σ => some σ
  | o :: r, σ => (astep E O ops σ o).bind (arun E O ops r)

/-- A frame and a world that a state stands for, reached from (γ₀, H₀, Φ₀, w₀). -/
structure Rel (E : Env) (γ₀ : List Gh) (H₀ : List AObj) (Φ₀ : Nat → Nat → Prop) (w₀ : World) (σ : St) (a : Act) (w : World) : Prop where
  ex : ∃ γ Φ, Ok E γ₀ H₀ Φ₀ w₀ γ σ.h Φ w ∧ Slots γ σ.h Φ w a σ.t
  size : a.tmps.size = σ.n
  defers : a.defers = []
  len0 : γ₀.length = H₀.length

section
variable {E : Env} {O : Orc} {γ₀ : List Gh} {H₀ : List AObj} {Φ₀ : Nat → Nat → Prop} {w₀ : World}

theorem slots_put {γ : List Gh} {H : List AObj} {Φ : Nat → Nat → Prop} {w : World} {a : Act} {t : Nat → AV} (hs : Slots γ H Φ w a t) {d : Nat} (hd : d < a.tmps.size) {u : Value} {r : AV} (hr : ARel γ H Φ w u r) :
    Slots γ H Φ w (a.put (some d) u) (upd t d r) := by
  intro i
  show ARel γ H Φ w ((a.tmps.setIfInBounds d u).getD i undef) (upd t d r i)
  unfold upd
  rw [Array.getD_eq_getD_getElem?, Array.getElem?_setIfInBounds]
  by_cases hi : d = i
  · subst hi
    simp [hd, hr]
  · rw [if_neg hi, if_neg (fun e => hi e.symm), ← Array.getD_eq_getD_getElem?]
    exact hs i

/-- A frame after a value was put where it belongs. -/
theorem rel_put {σ σ' : St} {a : Act} {γ γ' : List Gh} {Φ Φ' : Nat → Nat → Prop} {w w' : World} {H' : List AObj} (hok : Ok E γ₀ H₀ Φ₀ w₀ γ σ.h Φ w) (hs : Slots γ σ.h Φ w a σ.t) (hsz : a.tmps.size = σ.n) (hd : a.defers = []) (h0 : γ₀.length = H₀.length)
    (hk : Ok E γ σ.h Φ w γ' H' Φ' w') {dst : Option Nat} {u : Value} {r : AV} (hr : dst = none ∨ ARel γ' H' Φ' w' u r) (hp : put σ dst r H' = some σ') : Rel E γ₀ H₀ Φ₀ w₀ σ' (a.put dst u) w' := by
  have hs' : Slots γ' H' Φ' w' a σ.t := fun i => (hs i).mono hk.evo
  unfold put at hp
  cases dst with
  | none =>
    simp only [Option.some.injEq] at hp
    subst hp
    exact ⟨⟨γ', Φ', hok.trans hk, hs'⟩, hsz, hd, h0⟩
  | some d =>
    simp only at hp
    split at hp
    · rename_i hdn
      simp only [Option.some.injEq] at hp
      subst hp
      rcases hr with h | h
      · cases h
      · exact ⟨⟨γ', Φ', hok.trans hk, slots_put hs' (by rw [hsz]; exact hdn) h⟩, by simp [Act.put, hsz], hd, h0⟩
    · cases hp

theorem argsPV_spec {H : List AObj} : ∀ {as : List AV} {ps : List PV}, argsPV H as = some ps → as.length = ps.length ∧ ∀ (i : Nat) a p, as[i]? = some a → ps[i]? = some p → toPV H a = some p
  | [], ps, h => by
    simp only [argsPV, Option.some.injEq] at h
    subst h
    exact ⟨rfl, fun i a p ha => by simp at ha⟩
  | a :: as, ps, h => by
    simp only [argsPV] at h
    split at h
    · rename_i p s hp hs
      simp only [Option.some.injEq] at h
      subst h
      obtain ⟨h1, h2⟩ := argsPV_spec hs
      refine ⟨by simp [h1], fun i b q hb hq => ?_⟩
      cases i with
      | zero => simp only [List.getElem?_cons_zero, Option.some.injEq] at hb hq; subst hb hq; exact hp
      | succ i => rw [List.getElem?_cons_succ] at hb hq; exact h2 i b q hb hq
    · cases h

theorem renArgs_spec {H : List AObj} {f : Nat → Option Nat} : ∀ {as bs : List AV}, renArgs H f as = some bs → as.length = bs.length ∧ ∀ (i : Nat) a b, as[i]? = some a → bs[i]? = some b → (∃ p, toPV H a = some p ∧ b = .pv p) ∨ a.ren f = some b
  | [], bs, h => by
    simp only [renArgs, Option.some.injEq] at h
    subst h
    exact ⟨rfl, fun i a p ha => by simp at ha⟩
  | a :: as, bs, h => by
    simp only [renArgs] at h
    split at h
    · rename_i b s hb hs
      simp only [Option.some.injEq] at h
      subst h
      obtain ⟨h1, h2⟩ := renArgs_spec hs
      refine ⟨by simp [h1], fun i c d hc hd => ?_⟩
      cases i with
      | zero =>
        simp only [List.getElem?_cons_zero, Option.some.injEq] at hc hd
        subst hc hd
        split at hb
        · rename_i p hp
          simp only [Option.some.injEq] at hb
          exact .inl ⟨p, hp, hb.symm⟩
        · exact .inr hb
      | succ i => rw [List.getElem?_cons_succ] at hc hd; exact h2 i c d hc hd
    · cases h

theorem ret_rel {γ : List Gh} {H : List AObj} {Φ : Nat → Nat → Prop} {w : World} {vs : List Value} {rs : List AV} (hl : vs.length = rs.length) (h : ∀ (i : Nat) v a, vs[i]? = some v → rs[i]? = some a → ARel γ H Φ w v a) : ARel γ H Φ w (retV vs) (retAV rs) := by
  match vs, rs, hl with
  | [], [], _ => exact .tup [] [] rfl (fun k v c hv => by simp at hv)
  | [v], [r], _ => exact h 0 v r rfl rfl
  | v :: v' :: vs, r :: r' :: rs, hl => exact .tup _ _ hl h
  | [v], r :: r' :: rs, hl => simp at hl
  | v :: v' :: vs, [r], hl => simp at hl

end
end Go.Abs
