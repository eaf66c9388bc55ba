import Derived.Calls
import Derived.Orders
import Derived.Laws.AppendOwn
import Derived.Below
/- The abstract machine, part 1: pure values, slot values, abstract objects, and how they lie in a world. Nothing here names a program. -/
namespace Go.Abs

/-- Pure values: data without addresses. -/
inductive PV where
  | bool (b : Bool)
  | int (k : IntKind) (n : Int)
  | str (s : List UInt8)
  | nil
  | slice (xs : List PV)
  | agg (cs : List PV)
  | ifc
  deriving Inhabited

def PV.cells : PV → List PV
  | .agg cs => cs
  | p => [p]

def PV.one : PV → Bool
  | .agg _ => false
  | _ => true

def flat (xs : List PV) : List PV := xs.flatMap PV.cells

/-- The value v reads in world w, over cells that stay (Φ), as the pure value. -/
inductive Rep (Φ : Nat → Nat → Prop) (w : World) : Value → PV → Prop
  | bool (b : Bool) : Rep Φ w (.bool b) (.bool b)
  | int (k : IntKind) (n : Int) : Rep Φ w (.int k n) (.int k n)
  | str (s : List UInt8) : Rep Φ w (.string ⟨⟨s⟩⟩) (.str s)
  | nil : Rep Φ w .nilIface .nil
  | ifc (t : TypeId) (v : Value) : Rep Φ w (.iface t v) .ifc
  | sliceNil : Rep Φ w (.slice none 0 0) (.slice [])
  | slice (b o len cap sz : Nat) (xs : List PV) (vs : Nat → Value) (hl : xs.length = len) (hc : len ≤ cap) (hm : cap ≤ maxLen)
      (hsz : ∀ x ∈ xs, x.cells.length = sz) (h1 : ∀ c ∈ flat xs, c.one = true)
      (hcell : ∀ k, k < (flat xs).length → Φ b (o + k) ∧ w.cell? ⟨b, o + k, none⟩ = some (vs k))
      (hrep : ∀ k c, (flat xs)[k]? = some c → Rep Φ w (vs k) c) : Rep Φ w (.slice (some ⟨b, o, none⟩) len cap) (.slice xs)
  | sliceAny (A : Addr) (cap : Nat) (hm : cap ≤ maxLen) : Rep Φ w (.slice (some A) 0 cap) (.slice [])
  | agg (vs : List Value) (cs : List PV) (hl : vs.length = cs.length) (h1 : ∀ c ∈ cs, c.one = true)
      (hrep : ∀ (k : Nat) (v : Value) (c : PV), vs[k]? = some v → cs[k]? = some c → Rep Φ w v c) : Rep Φ w (.agg ⟨vs⟩) (.agg cs)

theorem Rep.mono {Φ Φ' : Nat → Nat → Prop} {w w' : World} (hΦ : ∀ b k, Φ b k → Φ' b k) (hw : ∀ b k, Φ b k → w'.cell? ⟨b, k, none⟩ = w.cell? ⟨b, k, none⟩)
    {v : Value} {p : PV} (h : Rep Φ w v p) : Rep Φ' w' v p := by
  induction h with
  | bool b => exact .bool b
  | int k n => exact .int k n
  | str s => exact .str s
  | nil => exact .nil
  | ifc t v => exact .ifc t v
  | sliceNil => exact .sliceNil
  | slice b o len cap sz xs vs hl hc hm hsz h1 hcell hrep ih =>
    exact .slice b o len cap sz xs vs hl hc hm hsz h1 (fun k hk => ⟨hΦ _ _ (hcell k hk).1, (hw _ _ (hcell k hk).1).trans (hcell k hk).2⟩) ih
  | sliceAny A cap hm => exact .sliceAny A cap hm
  | agg vs cs hl h1 hrep ih => exact .agg vs cs hl h1 ih

theorem Rep.one {Φ : Nat → Nat → Prop} {w : World} {v : Value} {p : PV} (h : Rep Φ w v p) (h1 : p.one = true) : v.oneCell' = true := by
  cases h <;> first | rfl | simp [PV.one] at h1

/-- Slot values. -/
inductive AV where
  | any
  | pv (p : PV)
  | ref (l off : Nat)
  | pptr (cs : List PV)
  | vec (l n : Nat)
  | vptr (l n i off : Nat)
  | mref (l : Nat)
  | nils
  | full (xs : List PV)
  | tup (vs : List AV)
  | agg (vs : List AV)
  | fn (f : Nat) (caps : List Nat)
  deriving Inhabited

/-- Abstract objects: what the call owns. -/
inductive AObj where
  | var (cs : List AV)
  | row (e : TypeId) (sz : Nat) (xs : List PV) (fz : Bool)
  | map (es : List (PV × PV))
  | bld (s : List UInt8)
  | iter (s : List UInt8) (p : Nat)
  | tree (e : TypeId) (sz off : Nat) (e2 : TypeId) (sz2 m : Nat) (xs : List PV)
  | hrow (e : TypeId) (sz : Nat) (xs : List PV) (j off l n : Nat)
  | moved (e : TypeId) (sz n : Nat)
  | hold (d : Nat)
  | gone

/-- What of an object its slices lean on: the type and the size of its elements, how many there are. -/
def rowLike : AObj → Option (TypeId × Nat × Nat)
  | .row e sz xs _ => some (e, sz, xs.length)
  | .tree e sz _ _ _ _ xs => some (e, sz, xs.length)
  | .hrow e sz xs _ _ _ _ => some (e, sz, xs.length)
  | .moved e sz n => some (e, sz, n)
  | _ => none

def rowAt (H : List AObj) (l : Nat) : Option (TypeId × Nat × Nat) := (H[l]?).bind rowLike

/-- What stands for an object: the value that denotes it now, the blocks that it owns. -/
structure Gh where
  v : Value
  own : List Nat

/-- The value that denotes an object now. -/
def gv (γ : List Gh) (l : Nat) : Option Value := γ[l]?.map Gh.v

inductive ARel (γ : List Gh) (H : List AObj) (Φ : Nat → Nat → Prop) (w : World) : Value → AV → Prop
  | any (v : Value) : ARel γ H Φ w v .any
  | pv {v : Value} {p : PV} (h : Rep Φ w v p) : ARel γ H Φ w v (.pv p)
  | ref (b l off : Nat) (h : gv γ l = some (.pointer (some ⟨b, 0, none⟩))) : ARel γ H Φ w (.pointer (some ⟨b, off, none⟩)) (.ref l off)
  | pptr (b o : Nat) (cs : List PV) (vs : Nat → Value) (h1 : ∀ c ∈ cs, c.one = true)
      (hcell : ∀ k, k < cs.length → Φ b (o + k) ∧ w.cell? ⟨b, o + k, none⟩ = some (vs k))
      (hrep : ∀ (k : Nat) c, cs[k]? = some c → Rep Φ w (vs k) c) : ARel γ H Φ w (.pointer (some ⟨b, o, none⟩)) (.pptr cs)
  | vec (A : Option Addr) (l n cap : Nat) (e : TypeId) (sz len : Nat) (hrow : rowAt H l = some (e, sz, len)) (hn : n ≤ len) (hA : 0 < n → ∃ b, A = some ⟨b, 0, none⟩)
      (h : len = n → gv γ l = some (.slice A n cap)) : ARel γ H Φ w (.slice A n cap) (.vec l n)
  | vptr (b o l n i off : Nat) (e : TypeId) (sz len : Nat) (hrow : rowAt H l = some (e, sz, len)) (hn : n ≤ len)
      (h : len = n → ∃ cap, gv γ l = some (.slice (some ⟨b, 0, none⟩) n cap) ∧ o = i * sz + off) : ARel γ H Φ w (.pointer (some ⟨b, o, none⟩)) (.vptr l n i off)
  | nils : ARel γ H Φ w (.slice none 0 0) .nils
  | full (A : Option Addr) (n : Nat) (xs : List PV) (h : Rep Φ w (.slice A n n) (.slice xs)) : ARel γ H Φ w (.slice A n n) (.full xs)
  | mref (b l : Nat) (h : gv γ l = some (.map (some b))) : ARel γ H Φ w (.map (some b)) (.mref l)
  | fn (f : Nat) (cs : List Value) (caps : List Nat) (hl : cs.length = caps.length) (h : ∀ (k : Nat) v l, cs[k]? = some v → caps[k]? = some l → ∃ b, v = .pointer (some ⟨b, 0, none⟩) ∧ gv γ l = some v) : ARel γ H Φ w (.func (.func f) #[] ⟨cs⟩) (.fn f caps)
  | tup (ws : List Value) (vs : List AV) (hl : ws.length = vs.length) (h : ∀ (k : Nat) v c, ws[k]? = some v → vs[k]? = some c → ARel γ H Φ w v c) : ARel γ H Φ w (.tuple ⟨ws⟩) (.tup vs)
  | agg (ws : List Value) (vs : List AV) (hl : ws.length = vs.length) (h1 : ∀ v ∈ ws, v.oneCell' = true) (h : ∀ (k : Nat) v c, ws[k]? = some v → vs[k]? = some c → ARel γ H Φ w v c) : ARel γ H Φ w (.agg ⟨ws⟩) (.agg vs)

/-- From one state of memory to a later one: what is related stays related. -/
structure Evo (γ : List Gh) (H : List AObj) (Φ : Nat → Nat → Prop) (w : World) (γ' : List Gh) (H' : List AObj) (Φ' : Nat → Nat → Prop) (w' : World) : Prop where
  phi : ∀ b k, Φ b k → Φ' b k
  cell : ∀ b k, Φ b k → w'.cell? ⟨b, k, none⟩ = w.cell? ⟨b, k, none⟩
  gh : ∀ (l : Nat) (v : Value), gv γ l = some v → gv γ' l = some v ∨ ∃ A n c, v = .slice A n c
  row : ∀ (l : Nat) (e : TypeId) (sz n : Nat), rowAt H l = some (e, sz, n) → ∃ n', rowAt H' l = some (e, sz, n') ∧ n ≤ n' ∧ (n = n' → gv γ' l = gv γ l)

theorem rowAt_row {H : List AObj} {l : Nat} {e : TypeId} {sz : Nat} {xs : List PV} {fz : Bool} (h : H[l]? = some (.row e sz xs fz)) : rowAt H l = some (e, sz, xs.length) := by
  unfold rowAt
  rw [h]
  rfl

theorem rowAt_tree {H : List AObj} {l : Nat} {e : TypeId} {sz off e2 sz2 m : Nat} {xs : List PV} (h : H[l]? = some (.tree e sz off e2 sz2 m xs)) : rowAt H l = some (e, sz, xs.length) := by
  unfold rowAt
  rw [h]
  rfl

theorem rowAt_hrow {H : List AObj} {l : Nat} {e : TypeId} {sz : Nat} {xs : List PV} {j off l' n : Nat} (h : H[l]? = some (.hrow e sz xs j off l' n)) : rowAt H l = some (e, sz, xs.length) := by
  unfold rowAt
  rw [h]
  rfl

theorem rowAt_some {H : List AObj} {l : Nat} {p : TypeId × Nat × Nat} (h : rowAt H l = some p) : ∃ o, H[l]? = some o ∧ rowLike o = some p := Option.bind_eq_some_iff.1 h

theorem rowAt_lt {H : List AObj} {l : Nat} {p : TypeId × Nat × Nat} (h : rowAt H l = some p) : l < H.length := by
  obtain ⟨o, ho, _⟩ := rowAt_some h
  exact (List.getElem?_eq_some_iff.1 ho).1

theorem Evo.refl (γ : List Gh) (H : List AObj) (Φ : Nat → Nat → Prop) (w : World) : Evo γ H Φ w γ H Φ w :=
  ⟨fun _ _ h => h, fun _ _ _ => rfl, fun _ _ h => .inl h, fun _ _ _ n h => ⟨n, h, Nat.le_refl _, fun _ => rfl⟩⟩

theorem Evo.trans {γ₁ γ₂ γ₃ : List Gh} {H₁ H₂ H₃ : List AObj} {Φ₁ Φ₂ Φ₃ : Nat → Nat → Prop} {w₁ w₂ w₃ : World}
    (h : Evo γ₁ H₁ Φ₁ w₁ γ₂ H₂ Φ₂ w₂) (k : Evo γ₂ H₂ Φ₂ w₂ γ₃ H₃ Φ₃ w₃) : Evo γ₁ H₁ Φ₁ w₁ γ₃ H₃ Φ₃ w₃ := by
  refine ⟨fun b i x => k.phi _ _ (h.phi _ _ x), fun b i x => (k.cell _ _ (h.phi _ _ x)).trans (h.cell _ _ x), fun l v x => ?_, fun l e sz n x => ?_⟩
  · rcases h.gh l v x with y | y
    · exact k.gh l v y
    · exact .inr y
  · obtain ⟨n₂, h2, hl2, he2⟩ := h.row l e sz n x
    obtain ⟨n₃, h3, hl3, he3⟩ := k.row l e sz n₂ h2
    exact ⟨n₃, h3, Nat.le_trans hl2 hl3, fun hx => (he3 (by omega)).trans (he2 (by omega))⟩

theorem ARel.mono {γ γ' : List Gh} {H H' : List AObj} {Φ Φ' : Nat → Nat → Prop} {w w' : World} (hE : Evo γ H Φ w γ' H' Φ' w')
    {v : Value} {a : AV} (h : ARel γ H Φ w v a) : ARel γ' H' Φ' w' v a := by
  induction h with
  | any v => exact .any v
  | pv h => exact .pv (h.mono hE.phi hE.cell)
  | ref b l off h =>
    refine .ref b l off ?_
    rcases hE.gh l _ h with x | ⟨A, n, c, x⟩
    · exact x
    · cases x
  | pptr b o cs vs h1 hcell hrep =>
    exact .pptr b o cs vs h1 (fun k hk => ⟨hE.phi _ _ (hcell k hk).1, (hE.cell _ _ (hcell k hk).1).trans (hcell k hk).2⟩) (fun k c hc => (hrep k c hc).mono hE.phi hE.cell)
  | vec A l n cap e sz len hrow hn hA h =>
    obtain ⟨len', h', hl, he⟩ := hE.row l e sz len hrow
    exact .vec A l n cap e sz len' h' (by omega) hA (fun hx => (he (by omega)).trans (h (by omega)))
  | vptr b o l n i off e sz len hrow hn h =>
    obtain ⟨len', h', hl, he⟩ := hE.row l e sz len hrow
    refine .vptr b o l n i off e sz len' h' (by omega) (fun hx => ?_)
    obtain ⟨cap, h1, h2⟩ := h (by omega)
    exact ⟨cap, (he (by omega)).trans h1, h2⟩
  | mref b l h =>
    refine .mref b l ?_
    rcases hE.gh l _ h with x | ⟨A, n, c, x⟩
    · exact x
    · cases x
  | nils => exact .nils
  | full A n xs h => exact .full A n xs (h.mono hE.phi hE.cell)
  | tup ws vs hl h ih => exact .tup ws vs hl ih
  | agg ws vs hl h1 h ih => exact .agg ws vs hl h1 ih
  | fn f cs caps hl h =>
    refine .fn f cs caps hl (fun k v l hv hc => ?_)
    obtain ⟨b, rfl, hg⟩ := h k v l hv hc
    rcases hE.gh l _ hg with x | ⟨A, n, c, x⟩
    · exact ⟨b, rfl, x⟩
    · cases x

end Go.Abs
