import Derived.Test.YtkiajanddmgmnaaGreatDoorA31
/- The abstract machine, part 39: cases; nil slices in variables; objects under other numbers; rules. -/
namespace Go.Abs
open Go.RowKit

section
variable {E : Env} {O : Orc} {σ σ' : St} {k : Nat} {Q : Exit → St → Prop}

theorem AW.cases (b : Bool) {c : Code} (ht : b = true → AW E k c Q σ) (hf : b = false → AW E k c Q σ) : AW E k c Q σ := by
  cases b with
  | true => exact ht rfl
  | false => exact hf rfl

/-- The state behind some code may be weakened. -/
theorem AW.after {c : Code} (h : AW E k c (thenQ (fun σ' => ∃ σ'', Weak E k σ' σ'' ∧ Q .normal σ'') Q) σ) : AW E k c Q σ := by
  intro γ₀ H₀ Φ₀ w₀ a w hl hR
  refine wp_mono (h γ₀ H₀ Φ₀ w₀ a w hl hR) (fun e a' w' ⟨σ', hR', hQ⟩ => ?_)
  cases e with
  | normal =>
    obtain ⟨σ'', hw, hq⟩ := hQ
    exact ⟨σ'', hw γ₀ H₀ Φ₀ w₀ a' w' hl hR', hq⟩
  | _ => exact ⟨σ', hR', hQ⟩

/-- A nil slice in a variable's cell becomes a row of the call's own. -/
theorem Weak.ownC (l j : Nat) (e : TypeId) (sz : Nat) (hsz : 0 < sz) {cs : List AV} (hl : σ.h[l]? = some (.var cs)) (hj : cs[j]? = some .nils) :
    Weak E k σ ⟨σ.t, σ.n, σ.h.set l (.var (cs.set j (.vec σ.h.length 0))) ++ [.row e sz [] true]⟩ := by
  intro γ₀ H₀ Φ₀ w₀ a w hl0' hR
  obtain ⟨⟨γ, Φ, hok, hs⟩, hn, hd, hl0⟩ := hR
  have hrow : w.ownsRow 0 e sz (.slice none 0 0) ([] : List PV).length [] := World.ownsRow_nil w 0 e sz
  obtain ⟨γ', Φ', hk, hr⟩ := pushRow (v := .slice none 0 0) hok.inv hrow ⟨rfl, rfl, rfl, Nat.le_refl _, .inr ⟨rfl, rfl, fun _ _ => rfl⟩⟩ rfl ⟨rfl, fun c hc => by simp [flat_nil] at hc, fun k v c hv _ => by simp at hv⟩ (fun z hz => by cases hz) hsz true
  have hlt : l < σ.h.length := (List.getElem?_eq_some_iff.1 hl).1
  have hl2 : (σ.h ++ [AObj.row e sz [] true])[l]? = some (.var cs) := by rw [List.getElem?_append_left hlt]; exact hl
  obtain ⟨g, hg, hO⟩ := hk.inv.gh hl2
  obtain ⟨b, T, vs, hv, hown, hb, hvl, hrel, hnΦ⟩ := hO
  have hjl : j < cs.length := (List.getElem?_eq_some_iff.1 hj).1
  have hk2 := hk.inv.setObj (o' := .var (cs.set j (.vec σ.h.length 0))) (g' := g) (w' := w) (Φ' := Φ') hl2 hg (fun _ _ _ => rfl) (Nat.le_refl _) rfl rfl rfl (fun _ _ h => h)
    (fun _ _ h _ _ => h) (fun b k h => hk.inv.phi b k h) (fun _ _ _ _ => rfl) (fun b hb => ⟨.inl hb, (hk.inv.own l g hg b hb).2⟩) (.inl rfl)
    (fun e1 sz1 n1 h => by cases h)
    (fun hE => ⟨b, T, vs, hv, hown, hb, by simpa using hvl, fun i v c hvi hc => by
      by_cases hij : i = j
      · subst hij
        rw [List.getElem?_set_self hjl] at hc
        injection hc with hc
        subst hc
        obtain ⟨h1, h2⟩ := hrel i v _ hvi hj
        refine ⟨h1, ?_⟩
        cases h2
        exact hr.mono hE
      · rw [List.getElem?_set_ne (Ne.symm hij)] at hc
        obtain ⟨h1, h2⟩ := hrel i v c hvi hc
        exact ⟨h1, h2.mono hE⟩, hnΦ⟩)
  rw [List.set_append_left l _ hlt] at hk2
  exact ⟨⟨_, _, (hok.trans hk).trans hk2, fun i => ((hs i).mono hk.evo).mono hk2.evo⟩, hn, hd, hl0⟩

def renS (f : Nat → Option Nat) : List (Nat × AV) → Option (List (Nat × AV))
  | [] => some []
  | (i, a) :: r => match a.ren f, renS f r with
    | some b, some s => some ((i, b) :: s)
    | _, _ => none

theorem renS_sl {f : Nat → Option Nat} : ∀ {L L' : List (Nat × AV)}, renS f L = some L' → ∀ i, sl L' i = .any ∨ (sl L i).ren f = some (sl L' i)
  | [], L', h, i => by
    simp only [renS, Option.some.injEq] at h
    subst h
    exact .inl rfl
  | (j, a) :: r, L', h, i => by
    simp only [renS] at h
    split at h
    · rename_i b s hb hs
      simp only [Option.some.injEq] at h
      subst h
      simp only [sl]
      split
      · exact .inr hb
      · exact renS_sl hs i
    · cases h

/-- The objects of the call's own under other numbers; some may be forgotten. -/
theorem Weak.sel (extra : List Nat) {t : Nat → AV} {n : Nat} {H Hs : List AObj} {L L' : List (Nat × AV)} (hL : keeps t L) (hnd : (List.range k ++ extra).Nodup) (hs : selObjs H (idx (List.range k ++ extra)) (List.range k ++ extra) = some Hs)
    (hr : renS (idx (List.range k ++ extra)) L = some L') : Weak E k ⟨t, n, H⟩ ⟨sl L', n, Hs⟩ := by
  intro γ₀ H₀ Φ₀ w₀ a w hk hR
  obtain ⟨⟨γ, Φ, hok, hsl⟩, hn, hd, hl0⟩ := hR
  subst hk
  refine ⟨⟨_, Φ, hok.sel hl0 hnd hs, fun i => ?_⟩, hn, hd, hl0⟩
  show ARel _ _ Φ w _ (sl L' i)
  rcases renS_sl hr i with h | h
  · rw [h]
    exact .any _
  · rcases keeps_sl hL i with h1 | h1
    · have := hsl i
      rw [h1] at h
      exact this.select hok.inv hs h
    · rw [h1] at h
      simp only [AV.ren, Option.some.injEq] at h
      rw [← h]
      exact .any _

end

theorem isNil_tmp (i : Nat) : isNil (.tmp i) = false := rfl
theorem isNil_func (i : Nat) : isNil (.func i) = false := rfl
theorem isNil_int (k : IntKind) (n : Int) : isNil (.const (.int k n)) = false := rfl
theorem isNil_bool (b : Bool) : isNil (.const (.bool b)) = false := rfl
theorem isNil_str (s : ByteArray) : isNil (.const (.string s)) = false := rfl
theorem isNil_slice (a : Option Addr) (n c : Nat) : isNil (.const (.slice a n c)) = false := rfl
theorem isNil_nil : isNil (.const .nilIface) = true := rfl

theorem qnil2_eql {T : Nat → Option TI} {t a b : Nat} {c : Option (List PV)} (h : T t = some ⟨.iface, a, b, c⟩) (x : Bool) : qnil2 T .eql t (.pv (bif x then PV.ifc else PV.nil)) = some (.pv (.bool !x)) := by
  cases x <;> simp only [cond_true, cond_false, qnil2, h] <;> rfl
theorem qnil2_neq {T : Nat → Option TI} {t a b : Nat} {c : Option (List PV)} (h : T t = some ⟨.iface, a, b, c⟩) (x : Bool) : qnil2 T .neq t (.pv (bif x then PV.ifc else PV.nil)) = some (.pv (.bool x)) := by
  cases x <;> simp only [cond_true, cond_false, qnil2, h] <;> rfl

theorem qnil_ref (l o : Nat) : qnil (.ref l o) = some (.ref l o) := rfl
theorem qnil_pptr (cs : List PV) : qnil (.pptr cs) = some (.pptr cs) := rfl
theorem qnil_vptr (l n i o : Nat) : qnil (.vptr l n i o) = some (.vptr l n i o) := rfl
theorem ebox_agg (H : List AObj) (cs : List AV) : ebox H (.agg cs) = some (.ref H.length 0, H ++ [.var cs]) := rfl
theorem mm2_f (k k' : IntKind) (x y : Int) : mm2 false (.pv (.int k x)) (.pv (.int k' y)) = some (.pv (.int k (imin x y))) := rfl
theorem mm2_t (k k' : IntKind) (x y : Int) : mm2 true (.pv (.int k x)) (.pv (.int k' y)) = some (.pv (.int k (imax x y))) := rfl

theorem erange_str {E : Env} {ty a b : Nat} {c : Option (List PV)} (h : E.T ty = some ⟨.str, a, b, c⟩) (H : List AObj) (s : List UInt8) : erange E H ty (.pv (.str s)) = some (.ref H.length 0, H ++ [.iter s 0]) := by
  simp only [erange, h]

theorem enext_t {H : List AObj} {l : Nat} {s : List UInt8} {p : Nat} (hl : H[l]? = some (.iter s p)) (h : p < s.length) : enext H (.ref l 0) true = some (.tup [.pv (.bool true), .pv (.int .i64 p), .pv (.int .i32 (runeC s p))], H.set l (.iter s (runeN s p))) := by
  simp only [enext, hl, if_pos h]
theorem enext_f {H : List AObj} {l : Nat} {s : List UInt8} {p : Nat} (hl : H[l]? = some (.iter s p)) (h : ¬ p < s.length) : enext H (.ref l 0) true = some (.tup [.pv (.bool false)], H) := by
  simp only [enext, hl, if_neg h]

end Go.Abs
