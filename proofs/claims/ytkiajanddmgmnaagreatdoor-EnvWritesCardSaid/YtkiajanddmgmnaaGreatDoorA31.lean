import Derived.Test.YtkiajanddmgmnaaGreatDoorA28
/- The abstract machine, part 30: what the printed functions are made of, and the rules that their proofs use. -/
namespace Go.Abs
open Go.RowKit

/-! ### What the printed functions are made of -/

/-- More rounds than any loop makes. -/
def BIG : Nat := 1180591620717411303424

/-- A loop: its body is given what to do for another round. -/
def iter {α R : Type} (body : (α → Option R) → α → Option R) : Nat → α → Option R
  | 0, _ => none
  | n + 1, a => body (iter body n) a

theorem iter_some {α R : Type} {body : (α → Option R) → α → Option R} {n : Nat} {a : α} {r : R} (h : iter body n a = some r) : ∃ m, n = m + 1 ∧ body (iter body m) a = some r := by
  cases n with
  | zero => cases h
  | succ m => exact ⟨m, rfl, h⟩

/-- A loop's result by an invariant and a measure. -/
theorem iter_inv {α R : Type} {body : (α → Option R) → α → Option R} (p : α → Prop) (μ : α → Nat) (out : α → Option R)
    (hb : ∀ (again : α → Option R) (a : α), p a → (∀ b, p b → μ b < μ a → again b = out b) → body again a = out a) : ∀ (n : Nat) (a : α), p a → μ a < n → iter body n a = out a
  | 0, _, _, h => absurd h (Nat.not_lt_zero _)
  | n + 1, a, hp, h => hb _ a hp fun b hpb hlt => iter_inv p μ out hb n b hpb (by omega)

theorem iter_big {α R : Type} {body : (α → Option R) → α → Option R} (p : α → Prop) (μ : α → Nat) (out : α → Option R)
    (hb : ∀ (again : α → Option R) (a : α), p a → (∀ b, p b → μ b < μ a → again b = out b) → body again a = out a) (a : α) (hp : p a) (h : μ a ≤ 1180591620717411303423) : iter body BIG a = out a :=
  iter_inv p μ out hb BIG a hp (by unfold BIG; omega)

def guardO {α : Type} [Inhabited α] (g : Bool) (x : Option α) : Option α := bif g then x else some default

theorem guardO_t {α : Type} [Inhabited α] {g : Bool} {x : Option α} {v : α} (h : guardO g x = some v) : g = true → x = some v := fun hg => by
  subst hg
  exact h

theorem guardO_true {α : Type} [Inhabited α] (x : Option α) : guardO true x = x := rfl
theorem guardO_false {α : Type} [Inhabited α] (x : Option α) : guardO false x = some default := rfl

theorem bif_t {α : Type} {b : Bool} {x y : Option α} {r : α} (hb : b = true) (h : (bif b then x else y) = some r) : x = some r := by
  subst hb
  exact h
theorem bif_f {α : Type} {b : Bool} {x y : Option α} {r : α} (hb : b = false) (h : (bif b then x else y) = some r) : y = some r := by
  subst hb
  exact h

/-- A byte of a string. -/
def sidx (s : List UInt8) (i : Int) : Option Int := if 0 ≤ i then s[i.toNat]?.map fun c => (c.toNat : Int) else none
/-- A part of a string. -/
def sslice (s : List UInt8) (lo hi : Int) : Option (List UInt8) := if 0 ≤ lo ∧ lo ≤ hi ∧ hi ≤ s.length then some ((s.drop lo.toNat).take (hi.toNat - lo.toNat)) else none
/-- An element. -/
def lidx {α : Type} (xs : List α) (i : Int) : Option α := if 0 ≤ i then xs[i.toNat]? else none
/-- A part of a slice. -/
def lslice {α : Type} (xs : List α) (lo hi : Int) : Option (List α) := if 0 ≤ lo ∧ lo ≤ hi ∧ hi ≤ xs.length then some ((xs.drop lo.toNat).take (hi.toNat - lo.toNat)) else none
/-- Two strings, one after the other. -/
def catO (a b : List UInt8) : Option (List UInt8) := if a.length + b.length ≤ 9223372036854775807 then some (a ++ b) else none
/-- Elements behind others: of a size in bytes. -/
def appO {α : Type} (sz : Nat) (xs ys : List α) : Option (List α) := if (xs.length + ys.length) * sz ≤ 140737488355328 then some (xs ++ ys) else none
def quoO (k : IntKind) (a b : Int) : Option Int := if b = 0 then none else some (k.wrap (a.tdiv b))
def remO (a b : Int) : Option Int := if b = 0 then none else some (a.tmod b)

theorem catO_eq {a b : List UInt8} (h : a.length + b.length ≤ 9223372036854775807) : catO a b = some (a ++ b) := if_pos h
theorem appO_eq {α : Type} {sz : Nat} {xs ys : List α} (h : (xs.length + ys.length) * sz ≤ 140737488355328) : appO sz xs ys = some (xs ++ ys) := if_pos h

/-! ### What a step that did not fail tells -/

theorem int_mk {i : Int} (h : 0 ≤ i) : i = (i.toNat : Int) := (Int.toNat_of_nonneg h).symm

theorem sidx_f {s : List UInt8} {i v : Int} (h : sidx s i = some v) : (0 ≤ i) = True ∧ s[i.toNat]? = some (s.getD i.toNat 0) ∧ ((s.getD i.toNat 0).toNat : Int) = v := by
  unfold sidx at h
  split at h
  · rename_i h0
    obtain ⟨c, hc, rfl⟩ := Option.map_eq_some_iff.1 h
    have : s.getD i.toNat 0 = c := by rw [List.getD_eq_getElem?_getD, hc]; rfl
    rw [this]
    exact ⟨eq_true h0, hc, rfl⟩
  · cases h

theorem sidx_g {g : Bool} {s : List UInt8} {i v : Int} (h : g = true → sidx s i = some v) : (g = true → 0 ≤ i) ∧ (g = true → s[i.toNat]? = some (s.getD i.toNat 0)) ∧ (g = true → ((s.getD i.toNat 0).toNat : Int) = v) :=
  ⟨fun hg => of_eq_true (sidx_f (h hg)).1, fun hg => (sidx_f (h hg)).2.1, fun hg => (sidx_f (h hg)).2.2⟩

theorem lidx_f {α : Type} {xs : List α} {i : Int} {x : α} (h : lidx xs i = some x) : (0 ≤ i) = True ∧ xs[i.toNat]? = some x ∧ (i.toNat < xs.length) = True := by
  unfold lidx at h
  split at h
  · rename_i h0
    exact ⟨eq_true h0, h, eq_true (List.getElem?_eq_some_iff.1 h).1⟩
  · cases h

theorem lidx_g {α : Type} {g : Bool} {xs : List α} {i : Int} {x : α} (h : g = true → lidx xs i = some x) : (g = true → 0 ≤ i) ∧ (g = true → xs[i.toNat]? = some x) ∧ (g = true → i.toNat < xs.length) :=
  ⟨fun hg => of_eq_true (lidx_f (h hg)).1, fun hg => (lidx_f (h hg)).2.1, fun hg => of_eq_true (lidx_f (h hg)).2.2⟩

theorem sslice_f {s t : List UInt8} {lo hi : Int} (h : sslice s lo hi = some t) : (0 ≤ lo) = True ∧ (0 ≤ hi) = True ∧ (lo.toNat ≤ hi.toNat) = True ∧ (hi.toNat ≤ s.length) = True ∧ (s.drop lo.toNat).take (hi.toNat - lo.toNat) = t := by
  unfold sslice at h
  split at h
  · rename_i h0
    injection h with h
    exact ⟨eq_true h0.1, eq_true (by omega), eq_true (by omega), eq_true (by omega), h⟩
  · cases h

theorem sslice_g {g : Bool} {s t : List UInt8} {lo hi : Int} (h : g = true → sslice s lo hi = some t) : (g = true → 0 ≤ lo) ∧ (g = true → 0 ≤ hi) ∧ (g = true → lo.toNat ≤ hi.toNat) ∧ (g = true → hi.toNat ≤ s.length) ∧ (g = true → (s.drop lo.toNat).take (hi.toNat - lo.toNat) = t) :=
  ⟨fun hg => of_eq_true (sslice_f (h hg)).1, fun hg => of_eq_true (sslice_f (h hg)).2.1, fun hg => of_eq_true (sslice_f (h hg)).2.2.1, fun hg => of_eq_true (sslice_f (h hg)).2.2.2.1, fun hg => (sslice_f (h hg)).2.2.2.2⟩

theorem lslice_f {α : Type} {s t : List α} {lo hi : Int} (h : lslice s lo hi = some t) : (0 ≤ lo) = True ∧ (0 ≤ hi) = True ∧ (lo.toNat ≤ hi.toNat) = True ∧ (hi.toNat ≤ s.length) = True ∧ t = (s.drop lo.toNat).take (hi.toNat - lo.toNat) := by
  unfold lslice at h
  split at h
  · rename_i h0
    injection h with h
    exact ⟨eq_true h0.1, eq_true (by omega), eq_true (by omega), eq_true (by omega), h.symm⟩
  · cases h

theorem lslice_g {α : Type} {g : Bool} {s t : List α} {lo hi : Int} (h : g = true → lslice s lo hi = some t) : (g = true → 0 ≤ lo) ∧ (g = true → 0 ≤ hi) ∧ (g = true → lo.toNat ≤ hi.toNat) ∧ (g = true → hi.toNat ≤ s.length) ∧ (g = true → t = (s.drop lo.toNat).take (hi.toNat - lo.toNat)) :=
  ⟨fun hg => of_eq_true (lslice_f (h hg)).1, fun hg => of_eq_true (lslice_f (h hg)).2.1, fun hg => of_eq_true (lslice_f (h hg)).2.2.1, fun hg => of_eq_true (lslice_f (h hg)).2.2.2.1, fun hg => (lslice_f (h hg)).2.2.2.2⟩

theorem catO_f {a b v : List UInt8} (h : catO a b = some v) : (a.length + b.length ≤ 9223372036854775807) = True ∧ a ++ b = v := by
  unfold catO at h
  split at h
  · rename_i h0
    injection h with h
    exact ⟨eq_true h0, h⟩
  · cases h

theorem catO_g {g : Bool} {a b v : List UInt8} (h : g = true → catO a b = some v) : (g = true → a.length + b.length ≤ 9223372036854775807) ∧ (g = true → a ++ b = v) :=
  ⟨fun hg => of_eq_true (catO_f (h hg)).1, fun hg => (catO_f (h hg)).2⟩

theorem appO_f {α : Type} {sz : Nat} {xs ys v : List α} (h : appO sz xs ys = some v) : ((xs.length + ys.length) * sz ≤ 140737488355328) = True ∧ v = xs ++ ys := by
  unfold appO at h
  split at h
  · rename_i h0
    injection h with h
    exact ⟨eq_true h0, h.symm⟩
  · cases h

theorem appO_g {α : Type} {g : Bool} {sz : Nat} {xs ys v : List α} (h : g = true → appO sz xs ys = some v) : (g = true → (xs.length + ys.length) * sz ≤ 140737488355328) ∧ (g = true → v = xs ++ ys) :=
  ⟨fun hg => of_eq_true (appO_f (h hg)).1, fun hg => (appO_f (h hg)).2⟩

/-! ### Rules -/

section
variable {E : Env} {O : Orc} {k : Nat} {Q : Exit → St → Prop}

/-- What comes behind a statement, for all the states in which the statement may end. -/
theorem AW.seqJ {α : Type} (S : α → St) (p : α → Prop) {x y : Code} {σ : St} (hy : ∀ a, p a → AW E k y Q (S a)) (hx : AW E k x (thenQ (fun σ' => ∃ a, p a ∧ Weak E k σ' (S a)) Q) σ) : AW E k (.seq x y) Q σ := by
  refine AW.seq (hx.mono fun e σ' hQ => ?_)
  cases e with
  | normal =>
    obtain ⟨a, ha, hw⟩ := hQ
    exact AW.weak hw (hy a ha)
  | _ => exact hQ

/-- A statement that ends in one state. -/
theorem AW.seqM (σ' : St) {x y : Code} {σ : St} (hx : AW E k x (thenQ (fun σ'' => Weak E k σ'' σ') Q) σ) (hy : AW E k y Q σ') : AW E k (.seq x y) Q σ := by
  refine AW.seq (hx.mono fun e σ'' hQ => ?_)
  cases e with
  | normal => exact AW.weak hQ hy
  | _ => exact hQ

theorem Weak.norm {m n : Nat} {t : Nat → AV} {L : List (Nat × AV)} {H H' : List AObj} (hk : k ≤ m) (hL : keeps t L) (hH : H.take m = H') (ho : H'.all (AObj.ltB m) = true) (hl : (L.all fun p => p.2.ltB m) = true) : Weak E k ⟨t, n, H⟩ ⟨sl L, n, H'⟩ :=
  (Weak.forget (σ := ⟨t, n, H⟩) (keeps_sl hL)).trans (Weak.cut hk hH ho hl)

/-- The same state, its slots read anew. -/
theorem Weak.slots {n : Nat} {t : Nat → AV} {L : List (Nat × AV)} {H : List AObj} (hL : keeps t L) : Weak E k ⟨t, n, H⟩ ⟨sl L, n, H⟩ := Weak.forget (σ := ⟨t, n, H⟩) (keeps_sl hL)

open Classical in
/-- A clause out of a relation. -/
noncomputable def chC (R : List AV → List AObj → List AV × List AObj → Prop) (args : List AV) (H : List AObj) : Option (List AV × List AObj) :=
  if h : ∃ x, R args H x then some (Classical.choose h) else none

theorem chC_some {R : List AV → List AObj → List AV × List AObj → Prop} {args : List AV} {H : List AObj} {x : List AV × List AObj} (h : chC R args H = some x) : R args H x := by
  unfold chC at h
  split at h
  · rename_i hx
    injection h with h
    exact h ▸ Classical.choose_spec hx
  · cases h

theorem chC_eq {R : List AV → List AObj → List AV × List AObj → Prop} {args : List AV} {H : List AObj} {x : List AV × List AObj} (h : R args H x) (hu : ∀ y, R args H y → y = x) : chC R args H = some x := by
  unfold chC
  have hx : ∃ x, R args H x := ⟨x, h⟩
  rw [dif_pos hx, hu _ (Classical.choose_spec hx)]

end

theorem map_inj_of {α β : Type} {f : α → β} (hf : ∀ x y, f x = f y → x = y) : ∀ {xs ys : List α}, xs.map f = ys.map f → xs = ys
  | [], [], _ => rfl
  | [], _ :: _, h => by simp at h
  | _ :: _, [], h => by simp at h
  | x :: xs, y :: ys, h => by
    simp only [List.map_cons, List.cons.injEq] at h
    rw [hf _ _ h.1, map_inj_of hf h.2]

theorem str_inj {x y : List UInt8} (h : PV.str x = PV.str y) : x = y := by injection h
theorem int_inj {k : IntKind} {x y : Int} (h : PV.int k x = PV.int k y) : x = y := by injection h
theorem bool_inj {x y : Bool} (h : PV.bool x = PV.bool y) : x = y := by injection h

end Go.Abs

/- The abstract machine, part 31: more rules for the printed proofs; what the library's functions compute. -/
namespace Go.Abs
open Go.RowKit

section
variable {E : Env} {k : Nat}

theorem Weak.of_eq {σ σ' σ'' : St} (h : Weak E k σ σ') (e : σ' = σ'') : Weak E k σ σ'' := e ▸ h

end

theorem ecall_eq {O : Orc} {H : List AObj} {f : FuncId} {args : List AV} {sel : List Nat} {as : List AV} {Hs : List AObj} {rs : List AV} {H' : List AObj} {r : AV} {Hn : List AObj}
    (h1 : dedup (locsOf H args ++ innerLocs H (locsOf H args)) = sel) (h2 : selObjs H (idx sel) sel = some Hs) (h3 : renArgs H (idx sel) args = some as) (h4 : O.C f as Hs = some (rs, H')) (h5 : decide (sel.length ≤ H'.length) = true)
    (h6 : retAV (rs.map (AV.mapL (backN H.length sel))) = r) (h7 : backObjs H sel H' = Hn) : ecall O H f args = some (r, Hn) := by
  unfold ecall
  simp only [h1, h2, h3, h4]
  rw [if_pos (of_decide_eq_true h5), h6, h7]

theorem str_all (xs : List (List UInt8)) : ((xs.map PV.str).all fun z => z.cells.length == 1) = true := by simp [PV.cells]
theorem int_all (k : IntKind) (xs : List Int) : ((xs.map (PV.int k)).all fun z => z.cells.length == 1) = true := by simp [PV.cells]
theorem bool_all (xs : List Bool) : ((xs.map PV.bool).all fun z => z.cells.length == 1) = true := by simp [PV.cells]
theorem mp_nil : mp [] = [] := rfl
theorem cells_agg (cs : List PV) : (PV.agg cs).cells = cs := rfl
theorem cells_str (s : List UInt8) : (PV.str s).cells = [.str s] := rfl
theorem cells_int (k : IntKind) (n : Int) : (PV.int k n).cells = [.int k n] := rfl
theorem cells_bool (b : Bool) : (PV.bool b).cells = [.bool b] := rfl
theorem cells_slice (xs : List PV) : (PV.slice xs).cells = [.slice xs] := rfl

theorem mp_inj {m m' : List (List UInt8 × Int)} (h : mp m = mp m') : m = m' := by
  have h1 := mp?_mp m
  rw [h, mp?_mp] at h1
  exact (Option.some.inj h1).symm

end Go.Abs
