import Derived.Test.YtkiajanddmgmnaaGreatDoorA19
/- The abstract machine, part 20: weaker states; functions. -/
namespace Go.Abs
open Go.RowKit

def AV.ltB0 (m : Nat) : AV → Bool
  | .ref l _ | .vec l _ | .vptr l _ _ _ | .mref l => decide (l < m)
  | .fn _ caps => caps.all fun l => decide (l < m)
  | .tup _ => false
  | .agg _ => false
  | _ => true

def AV.ltB (m : Nat) : AV → Bool
  | .ref l _ | .vec l _ | .vptr l _ _ _ | .mref l => decide (l < m)
  | .fn _ caps => caps.all fun l => decide (l < m)
  | .tup _ => false
  | .agg vs => vs.all (AV.ltB0 m)
  | _ => true

def AObj.ltB (m : Nat) : AObj → Bool
  | .var cs => cs.all (AV.ltB m)
  | .hrow _ _ _ _ _ l _ => decide (l < m)
  | _ => true

def scr (m : Nat) (a : AV) : AV := if a.ltB m then a else .any

section
variable {E : Env} {O : Orc} {γ₀ γ : List Gh} {H₀ H : List AObj} {Φ₀ Φ : Nat → Nat → Prop} {w₀ w : World} {σ σ' : St} {a : Act} {k : Nat}

theorem gv_take {l m : Nat} (h : l < m) : gv (γ.take m) l = gv γ l := by
  unfold gv
  rw [List.getElem?_take, if_pos h]

theorem ARel.take0 {m : Nat} {v : Value} {x : AV} (h : ARel γ H Φ w v x) (hx : x.ltB0 m = true) : ARel (γ.take m) (H.take m) Φ w v x := by
  have hr : ∀ (l : Nat) p, l < m → rowAt H l = some p → rowAt (H.take m) l = some p := fun l o hl ho => by unfold rowAt; rw [List.getElem?_take, if_pos hl]; exact ho
  cases h with
  | any v => exact .any v
  | pv h => exact .pv h
  | nils => exact .nils
  | full A n xs h => exact .full A n xs h
  | pptr b' o cs vs h1 h2 h3 => exact .pptr b' o cs vs h1 h2 h3
  | tup => simp [AV.ltB0] at hx
  | agg => simp [AV.ltB0] at hx
  | ref b' l off h => exact .ref b' l off ((gv_take (by simpa [AV.ltB0] using hx)).trans h)
  | mref b' l h => exact .mref b' l ((gv_take (by simpa [AV.ltB0] using hx)).trans h)
  | vec A l n cap e sz len hrow hn hA h =>
    have hl : l < m := by simpa [AV.ltB0] using hx
    exact .vec A l n cap e sz len (hr l _ hl hrow) hn hA (fun hx => (gv_take hl).trans (h hx))
  | vptr b' o l n j off e sz len hrow hn h =>
    have hl : l < m := by simpa [AV.ltB0] using hx
    refine .vptr b' o l n j off e sz len (hr l _ hl hrow) hn (fun hx => ?_)
    obtain ⟨cap, h1, h2⟩ := h hx
    exact ⟨cap, (gv_take hl).trans h1, h2⟩
  | fn f cs caps h1 h2 =>
    refine .fn f cs caps h1 (fun k v l hv hc => ?_)
    obtain ⟨b, e1, e2⟩ := h2 k v l hv hc
    have hl : l < m := by simpa using List.all_eq_true.1 (show (caps.all fun l => decide (l < m)) = true from hx) l (List.mem_of_getElem? hc)
    exact ⟨b, e1, (gv_take hl).trans e2⟩

theorem ARel.take {m : Nat} {v : Value} {x : AV} (h : ARel γ H Φ w v x) (hx : x.ltB m = true) : ARel (γ.take m) (H.take m) Φ w v x := by
  cases x with
  | agg vs =>
    cases h with
    | agg ws vs hl h1 h =>
      exact .agg ws vs hl h1 (fun k v c hv hc => (h k v c hv hc).take0 (List.all_eq_true.1 (show vs.all (AV.ltB0 m) = true from hx) c (List.mem_of_getElem? hc)))
  | _ => exact h.take0 hx

theorem Ok.take (h : Ok E γ₀ H₀ Φ₀ w₀ γ H Φ w) {m : Nat} (hm : H₀.length ≤ m) (hl0 : γ₀.length = H₀.length) (ho : (H.take m).all (AObj.ltB m) = true) : Ok E γ₀ H₀ Φ₀ w₀ (γ.take m) (H.take m) Φ w := by
  have get : ∀ {α : Type} {xs : List α} {l : Nat} {x : α}, (xs.take m)[l]? = some x → l < m ∧ xs[l]? = some x := by
    intro α xs l x hx
    rw [List.getElem?_take] at hx
    split at hx
    · exact ⟨by assumption, hx⟩
    · cases hx
  refine ⟨⟨by simp [h.inv.len], fun l o g hlo hg => ?_, fun i j gi gj hi hj => h.inv.disj i j gi gj (get hi).2 (get hj).2, fun i g hg => h.inv.own i g (get hg).2, h.inv.phi, h.inv.gi, h.inv.gn⟩,
    ⟨h.evo.phi, h.evo.cell, fun l v hv => ?_, fun l e sz n hrow => ?_⟩,
    ⟨h.since.os, h.since.tape, h.since.output, h.since.size, h.since.foreign, h.since.phi, fun i g hg => h.since.own i g (get hg).2⟩⟩
  · have hO := h.inv.obj l o g (get hlo).2 (get hg).2
    cases o with
    | var cs =>
      obtain ⟨b, T, vs, hv, hown, hb, hvl, hr, hn⟩ := hO
      have hlt : cs.all (AV.ltB m) = true := List.all_eq_true.1 ho _ (List.mem_of_getElem? hlo)
      exact ⟨b, T, vs, hv, hown, hb, hvl, fun k v c hvk hc => ⟨(hr k v c hvk hc).1, (hr k v c hvk hc).2.take (List.all_eq_true.1 hlt c (List.mem_of_getElem? hc))⟩, hn⟩
    | row e sz xs fz => exact hO
    | map es => exact hO
    | bld s => exact hO
    | iter s p => exact hO
    | tree e sz off e2 sz2 m xs => exact hO
    | hrow e sz xs j off l' n =>
      obtain ⟨cells, h1, h2, h3, h4, h5, h6, h7, h8, h9, h10, h11⟩ := hO
      have hlt : decide (l' < m) = true := List.all_eq_true.1 ho _ (List.mem_of_getElem? hlo)
      exact ⟨cells, h1, h2, h3, h4, h5, h6, h7, h8, h9, h10, fun v hv => (h11 v hv).take0 hlt⟩
    | moved e sz n => trivial
    | hold d => exact hO
    | gone => trivial
  · obtain ⟨g, hg, _⟩ := gv_some hv
    have hl : l < m := by
      have := (List.getElem?_eq_some_iff.1 hg).1
      omega
    rw [gv_take hl]
    exact h.evo.gh l v hv
  · have hl : l < m := by
      have := rowAt_lt hrow
      omega
    obtain ⟨n', h1, h2, h3⟩ := h.evo.row l e sz n hrow
    exact ⟨n', by unfold rowAt; rw [List.getElem?_take, if_pos hl]; exact h1, h2, fun hx => (gv_take hl).trans (h3 hx)⟩

/-- Forget the objects from m on, and what names them. -/
def scrub (m : Nat) (σ : St) : St := ⟨fun i => scr m (σ.t i), σ.n, σ.h.take m⟩

theorem Weak.scrub {m : Nat} (hk : k ≤ m) (ho : (σ.h.take m).all (AObj.ltB m) = true) : Weak E k σ (scrub m σ) := by
  intro γ₀ H₀ Φ₀ w₀ a w hl hR
  obtain ⟨⟨γ, Φ, hok, hs⟩, hsz, hd, hl0⟩ := hR
  refine ⟨⟨γ.take m, Φ, hok.take (by omega) hl0 ho, fun i => ?_⟩, hsz, hd, hl0⟩
  show ARel _ _ Φ w _ (scr m (σ.t i))
  unfold scr
  split
  · rename_i h
    exact (hs i).take h
  · exact .any _

/-- A nil slice in a slot becomes a row of the call's own. -/
theorem Weak.own (i : Nat) (e : TypeId) (sz : Nat) (hsz : 0 < sz) (hi : σ.t i = .nils) : Weak E k σ ⟨upd σ.t i (.vec σ.h.length 0), σ.n, σ.h ++ [.row e sz [] true]⟩ := by
  intro γ₀ H₀ Φ₀ w₀ a w hl hR
  obtain ⟨⟨γ, Φ, hok, hs⟩, hn, hd, hl0⟩ := hR
  have hrow : w.ownsRow 0 e sz (.slice none 0 0) ([] : List PV).length [] := World.ownsRow_nil w 0 e sz
  obtain ⟨γ', Φ', hk, hr⟩ := pushRow (v := .slice none 0 0) hok.inv hrow ⟨rfl, rfl, rfl, Nat.le_refl _, .inr ⟨rfl, rfl, fun _ _ => rfl⟩⟩ rfl ⟨rfl, fun c hc => by simp [flat_nil] at hc, fun k v c hv _ => by simp at hv⟩ (fun z hz => by cases hz) hsz true
  refine ⟨⟨γ', Φ', hok.trans hk, fun j => ?_⟩, hn, hd, hl0⟩
  show ARel _ _ Φ' w _ (upd σ.t i (.vec σ.h.length 0) j)
  unfold upd
  split
  · rename_i hj
    subst hj
    have h := hs j
    rw [hi] at h
    generalize a.tmps.getD j undef = v at h ⊢
    cases h
    exact hr
  · exact (hs j).mono hk.evo

/-- A row of the call's own is written no more: it may go where plain values go. -/
theorem Weak.freeze (l : Nat) {e : TypeId} {sz : Nat} {xs : List PV} (hl : σ.h[l]? = some (.row e sz xs false)) : Weak E k σ ⟨σ.t, σ.n, σ.h.set l (.row e sz xs true)⟩ := by
  intro γ₀ H₀ Φ₀ w₀ a w _ hR
  obtain ⟨⟨γ, Φ, hok, hs⟩, hn, hd, hl0⟩ := hR
  obtain ⟨g, hg, hO⟩ := hok.inv.gh hl
  obtain ⟨cells, hown, hcl, hrep, hsz, h1, hgo, h0, hphi⟩ := hO
  have hmem : ∀ b, b ∈ g.own ↔ g.v.ownBlock = some b := fun b => by rw [hgo]; simp
  have hk := hok.inv.setObj (o' := .row e sz xs true) (g' := g) (w' := w) (Φ' := fun b k => Φ b k ∨ (g.v.ownBlock = some b ∧ k < xs.length * sz)) hl hg (fun _ _ _ => rfl) (Nat.le_refl _) rfl rfl rfl (fun _ _ h => .inl h)
    (fun b k h _ hn => h.elim id (fun h => absurd ((hmem b).2 h.1) hn)) (fun b k h => h.elim (hok.inv.phi b k) (fun h => (hok.inv.own l g hg b ((hmem b).2 h.1)).2)) (fun _ _ _ _ => rfl) (fun b hb => ⟨.inl hb, (hok.inv.own l g hg b hb).2⟩) (.inl rfl)
    (rowLike_step (Nat.le_refl _) (fun _ => rfl))
    (fun hE => ⟨cells, hown, hcl, fun k v c hv hc => (hrep k v c hv hc).mono hE.phi hE.cell, hsz, h1, hgo, h0, fun b hb k => ⟨fun h => h.elim (fun h => absurd (((hphi b hb) k).1 h).1 (by simp)) (fun h => ⟨rfl, h.2⟩), fun _ hk => .inr ⟨hb, hk⟩⟩⟩)
  have hset : γ.set l g = γ := by
    refine List.ext_getElem? fun i => ?_
    by_cases hi : i = l
    · subst hi
      rw [List.getElem?_set_self (List.getElem?_eq_some_iff.1 hg).1, hg]
    · rw [List.getElem?_set_ne (Ne.symm hi)]
  exact ⟨⟨_, _, hok.trans hk, fun j => (hs j).mono hk.evo⟩, hn, hd, hl0⟩

/-- Slots may be forgotten. -/
theorem Weak.forget {t : Nat → AV} (h : ∀ i, t i = σ.t i ∨ t i = .any) : Weak E k σ ⟨t, σ.n, σ.h⟩ := by
  intro γ₀ H₀ Φ₀ w₀ a w _ hR
  obtain ⟨⟨γ, Φ, hok, hs⟩, hn, hd, hl0⟩ := hR
  refine ⟨⟨γ, Φ, hok, fun i => ?_⟩, hn, hd, hl0⟩
  show ARel γ σ.h Φ w _ (t i)
  rcases h i with h | h
  · rw [h]
    exact hs i
  · rw [h]
    exact .any _

/-! ### Functions -/

def entryT (args : List AV) : Nat → AV := fun i => args.getD i .any

def resOf (E : Env) (σ : St) : List ResultVar → Option (List AV)
  | [] => some []
  | .tmp t :: r => (resOf E σ r).map (σ.t t :: ·)
  | .cell p ty :: r => match qload E.T σ.h ty (σ.t p), resOf E σ r with
    | some a, some s => some (a :: s)
    | _, _ => none

/-- The results of a function, over the objects that came in and those that it hands back. -/
def finish (E : Env) (rv : List ResultVar) (m : Nat) (extra : List Nat) (σ : St) : Option (List AV × List AObj) :=
  let sel := List.range m ++ extra
  if sel.Nodup then match resOf E σ rv, selObjs σ.h (idx sel) sel with
  | some rs, some Hs => match (if extra = [] then renArgs σ.h (idx sel) rs else renL (idx sel) rs) with
    | some rs' => some (rs', Hs)
    | none => none
  | _, _ => none
  else none

/-- How the model reads one result. -/
def resF (tmps : Array Value) : ResultVar → Sem Value
  | .tmp t => pure (tmps.getD t undef)
  | .cell a t => do loadVar t (← asAddr (tmps.getD a undef))

theorem results_resF (fn : Func) (tmps : Array Value) : results fn tmps = (do let vs ← fn.results.mapM (resF tmps); pure (if h : vs.size = 1 then vs[0] else .tuple vs)) := rfl

theorem resOf_sound {γ : List Gh} {Φ : Nat → Nat → Prop} (hI : OInv E γ σ.h Φ w) (hs : Slots γ σ.h Φ w a σ.t) : ∀ (rv : List ResultVar) (rs : List AV), resOf E σ rv = some rs →
    ∃ vs, (rv.mapM (resF a.tmps)).run E.P w = .ok vs w ∧ vs.length = rs.length ∧ ∀ (i : Nat) v b, vs[i]? = some v → rs[i]? = some b → ARel γ σ.h Φ w v b
  | [], rs, h => by
    simp only [resOf, Option.some.injEq] at h
    subst h
    exact ⟨[], by simp, rfl, fun i v b hv => by simp at hv⟩
  | .tmp t :: rv, rs, h => by
    simp only [resOf] at h
    obtain ⟨s, hsr, rfl⟩ := Option.map_eq_some_iff.1 h
    obtain ⟨vs, h1, h2, h3⟩ := resOf_sound hI hs rv s hsr
    refine ⟨a.tmps.getD t undef :: vs, ?_, by simp [h2], fun i v b hv hb => ?_⟩
    · have h0 : (resF a.tmps (.tmp t)).run E.P w = .ok (a.tmps.getD t undef) w := rfl
      rw [List.mapM_cons]
      simp only [bind, Sem.run_bind'] at h1 h0 ⊢
      rw [h0]
      simp only [Result.andThen_ok, h1]
      rfl
    · cases i with
      | zero => simp only [List.getElem?_cons_zero, Option.some.injEq] at hv hb; subst hv hb; exact hs t
      | succ i => rw [List.getElem?_cons_succ] at hv hb; exact h3 i v b hv hb
  | .cell p ty :: rv, rs, h => by
    simp only [resOf] at h
    split at h
    · rename_i x s hx hsr
      simp only [Option.some.injEq] at h
      subst h
      obtain ⟨vs, h1, h2, h3⟩ := resOf_sound hI hs rv s hsr
      obtain ⟨u, hu, hr⟩ := load_sound hI (hs p) hx
      have hu2 : (resF a.tmps (.cell p ty)).run E.P w = .ok u w := by
        have hp := hs p
        show (do loadVar ty (← asAddr (a.tmps.getD p undef)) : Sem Value).run E.P w = .ok u w
        generalize a.tmps.getD p undef = v at hu hp ⊢
        generalize σ.t p = y at hp hx
        unfold qload at hx
        split at hx
        · cases hx
        · cases hp <;> first | (simp at hx; done) | (simpa [Instr.loadAt, Instr.sureAddr, asAddr] using hu)
      refine ⟨u :: vs, ?_, by simp [h2], fun i v b hv hb => ?_⟩
      · rw [List.mapM_cons]
        simp only [bind, Sem.run_bind'] at h1 hu2 ⊢
        rw [hu2]
        simp only [Result.andThen_ok, h1]
        rfl
      · cases i with
        | zero => simp only [List.getElem?_cons_zero, Option.some.injEq] at hv hb; subst hv hb; exact hr
        | succ i => rw [List.getElem?_cons_succ] at hv hb; exact h3 i v b hv hb
    · cases h

theorem Ok.sel (h : Ok E γ₀ H₀ Φ₀ w₀ γ H Φ w) (hl0 : γ₀.length = H₀.length) {extra : List Nat} (hnd : (List.range H₀.length ++ extra).Nodup) {Hs : List AObj} (hs : selObjs H (idx (List.range H₀.length ++ extra)) (List.range H₀.length ++ extra) = some Hs) :
    Ok E γ₀ H₀ Φ₀ w₀ (selGh γ (List.range H₀.length ++ extra)) Hs Φ w := by
  obtain ⟨hl, hget⟩ := selObjs_get hs
  have hinv := h.inv.select hnd hs
  have hat : ∀ l, l < H₀.length → (List.range H₀.length ++ extra)[l]? = some l := fun l hl => by
    rw [List.getElem?_append_left (by simpa using hl), List.getElem?_range hl]
  have hgv : ∀ l, l < H₀.length → gv (selGh γ (List.range H₀.length ++ extra)) l = gv γ l := by
    intro l hlt
    have h1 := hat l hlt
    have hil : l < Hs.length := by rw [← hl]; exact (List.getElem?_eq_some_iff.1 h1).1
    obtain ⟨l', o', h2, h3, _⟩ := hget l Hs[l] (List.getElem?_eq_getElem hil)
    rw [h1] at h2
    injection h2 with h2
    subst h2
    obtain ⟨g, hg, _⟩ := h.inv.gh h3
    unfold gv
    rw [selGh_get h1 hg, hg]
  refine ⟨hinv, ⟨h.evo.phi, h.evo.cell, fun l v hv => ?_, fun l e sz n hrow => ?_⟩, ⟨h.since.os, h.since.tape, h.since.output, h.since.size, h.since.foreign, h.since.phi, fun i g hg b hb => ?_⟩⟩
  · obtain ⟨g, hg, _⟩ := gv_some hv
    have hlt : l < H₀.length := by
      have := (List.getElem?_eq_some_iff.1 hg).1
      omega
    rw [hgv l hlt]
    exact h.evo.gh l v hv
  · have hlt := rowAt_lt hrow
    obtain ⟨n', h1, h2, h3⟩ := h.evo.row l e sz n hrow
    have h4 := hat l hlt
    have hil : l < Hs.length := by rw [← hl]; exact (List.getElem?_eq_some_iff.1 h4).1
    obtain ⟨l', o', h5, h6, h7⟩ := hget l Hs[l] (List.getElem?_eq_getElem hil)
    rw [h4] at h5
    injection h5 with h5
    subst h5
    unfold rowAt at h1
    rw [h6, Option.bind_some] at h1
    exact ⟨n', by unfold rowAt; rw [List.getElem?_eq_getElem hil, Option.bind_some, rowLike_ren h7]; exact h1, h2, fun hx => (hgv l hlt).trans (h3 hx)⟩
  · have hil : i < Hs.length := by
      have := (List.getElem?_eq_some_iff.1 hg).1
      simp only [selGh, List.length_map] at this
      omega
    obtain ⟨l', o', h2, h3, _⟩ := hget i Hs[i] (List.getElem?_eq_getElem hil)
    obtain ⟨g', hg', _⟩ := h.inv.gh h3
    rw [selGh_get h2 hg'] at hg
    injection hg with hg
    subst hg
    exact h.since.own l' g' hg' b hb

/-- The end of a function's body. -/
def retQ (E : Env) (fn : Func) (m : Nat) (extra : List Nat) (rs : List AV) (H' : List AObj) : Exit → St → Prop
  | .normal, σ | .ret, σ => finish E fn.results.toList m extra σ = some (rs, H')
  | _, _ => False

theorem Good.of_body {f : FuncId} {fn : Func} {c : Code} (hf : E.P.funcs[f]? = some fn) (hb : fn.body = some c) {args : List AV} {H : List AObj} {rs : List AV} {H' : List AObj} (hn : args.length ≤ fn.ntmps) (extra : List Nat)
    (h : AW E H.length c (retQ E fn H.length extra rs H') ⟨entryT args, fn.ntmps, H⟩) : Good E f args H rs H' := by
  intro w Φ γ cargs hI hl hr
  refine calls_of_wp hf hb ?_
  have hR : Rel E γ H Φ w ⟨entryT args, fn.ntmps, H⟩ { tmps := (⟨cargs⟩ : Array Value) ++ Array.replicate (fn.ntmps - (⟨cargs⟩ : Array Value).size) undef, defers := [] } w := by
    refine ⟨⟨γ, Φ, .refl hI, fun i => ?_⟩, ?_, rfl, hI.len⟩
    · show ARel γ H Φ w _ (args.getD i .any)
      rw [List.getD_eq_getElem?_getD]
      by_cases hi : i < args.length
      · rw [List.getElem?_eq_getElem hi]
        have hi' : i < cargs.length := by omega
        refine hr i _ _ ?_ (List.getElem?_eq_getElem hi)
        rw [List.getElem?_eq_getElem hi']
        simp [Array.getD_eq_getD_getElem?, Array.getElem?_append, hi']
      · rw [List.getElem?_eq_none (by omega)]
        exact .any _
    · show ((⟨cargs⟩ : Array Value) ++ Array.replicate (fn.ntmps - (⟨cargs⟩ : Array Value).size) undef).size = fn.ntmps
      simp
      omega
  refine wp_mono (h γ H Φ w _ w rfl hR) (fun e a' w' ⟨σ', hR', hQ⟩ => ?_)
  have fin : finish E fn.results.toList H.length extra σ' = some (rs, H') → a'.defers = [] ∧ ∃ v, (results fn a'.tmps).run E.P w' = .ok v w' ∧ ∃ vs γ' Φ', Ending.returned v = .returned (retV vs) ∧ Ok E γ H Φ w γ' H' Φ' w' ∧ vs.length = rs.length ∧ ∀ (i : Nat) v a, vs[i]? = some v → rs[i]? = some a → ARel γ' H' Φ' w' v a := by
    intro hfin
    obtain ⟨⟨γ', Φ', hok, hs⟩, _, hd, hl0⟩ := hR'
    unfold finish at hfin
    simp only at hfin
    split at hfin
    · rename_i hnd
      split at hfin
      · rename_i rs0 Hs hrs hHs
        split at hfin
        · rename_i rs' hren
          simp only [Option.some.injEq, Prod.mk.injEq] at hfin
          obtain ⟨rfl, rfl⟩ := hfin
          obtain ⟨vs, h1, h2, h3⟩ := resOf_sound hok.inv hs fn.results.toList rs0 hrs
          have hrun : (results fn a'.tmps).run E.P w' = .ok (retV vs) w' := by
            have h1' : (fn.results.mapM (resF a'.tmps)).run E.P w' = .ok ⟨vs⟩ w' := by
              rw [Array.mapM_eq_mapM_toList, Sem.run_map, h1]
              rfl
            rw [results_resF]
            simp only [bind, Sem.run_bind', h1', Result.andThen_ok]
            match vs with
            | [] => rfl
            | [v] => rfl
            | v :: v' :: vs => simp [retV]
          refine ⟨hd, _, hrun, vs, _, Φ', rfl, hok.sel hl0 hnd hHs, ?_⟩
          split at hren
          · obtain ⟨e1, e2⟩ := renArgs_spec hren
            refine ⟨by omega, fun i v b hv hb => ?_⟩
            have hi : i < rs0.length := by
              have := (List.getElem?_eq_some_iff.1 hv).1
              omega
            have hr0 := h3 i v rs0[i] hv (List.getElem?_eq_getElem hi)
            rcases e2 i rs0[i] b (List.getElem?_eq_getElem hi) hb with ⟨p, hp, rfl⟩ | hr1
            · exact .pv (toPV_rep hok.inv hr0 hp)
            · exact hr0.select hok.inv hHs hr1
          · obtain ⟨e1, e2⟩ := renL_get hren
            refine ⟨by omega, fun i v b hv hb => ?_⟩
            obtain ⟨c, hc, hr1⟩ := e2 i b hb
            exact (h3 i v c hv hc).select hok.inv hHs hr1
        · cases hfin
      · cases hfin
    · cases hfin
  cases e with
  | normal => exact fin hQ
  | ret => exact fin hQ
  | _ => exact hQ.elim

/-! ### Oracles -/

/-- An oracle out of clauses. -/
def mkOrc (pf : FuncId → Bool) (cl : List (FuncId × (List AV → List AObj → Option (List AV × List AObj)))) : Orc :=
  { C := fun f args H => match cl.find? (fun x => x.1 == f) with
      | some x => x.2 args H
      | none => none
    pf := pf }

def HasBody (E : Env) (f : FuncId) : Prop := ∃ fn, E.P.funcs[f]? = some fn ∧ fn.body.isSome = true ∧ (fn.name == "runtime.NumGoroutine") = false

theorem Sound.nil (pf : FuncId → Bool) : Sound E (mkOrc pf []) := fun f args H rs H' h => by simp [mkOrc] at h

theorem Sound.cons {pf : FuncId → Bool} {cl : List (FuncId × (List AV → List AObj → Option (List AV × List AObj)))} (h : Sound E (mkOrc pf cl)) {f : FuncId} {c : List AV → List AObj → Option (List AV × List AObj)}
    (hb : HasBody E f) (hc : ∀ args H rs H', c args H = some (rs, H') → Good E f args H rs H') : Sound E (mkOrc pf ((f, c) :: cl)) := by
  intro g args H rs H' hg
  simp only [mkOrc, List.find?_cons] at hg
  by_cases hfg : f = g
  · subst hfg
    simp only [beq_self_eq_true] at hg
    exact ⟨hc args H rs H' hg, hb⟩
  · have hne : (f == g) = false := by simpa using hfg
    rw [hne] at hg
    exact h g args H rs H' hg

end
end Go.Abs
