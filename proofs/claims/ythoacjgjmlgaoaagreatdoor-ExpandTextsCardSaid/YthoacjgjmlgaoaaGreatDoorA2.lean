/- The abstract machine, part 2: types as tables, the state of memory that a call keeps, quiet operations. -/
import Derived.Test.YthoacjgjmlgaoaaGreatDoorA1
import Derived.Laws.Entries
import Derived.Laws.Slices
import Derived.Lib.Builder
namespace Go.Abs
open Go.RowKit

/-- A type as the abstract machine knows it. -/
inductive TK where
  | int (k : IntKind)
  | bool
  | str
  | slice (e : TypeId)
  | strct (fs : List (Nat × Nat))
  | map (k e : TypeId)
  | ptr (e : TypeId)
  | iface
  | other
  deriving Inhabited

structure TI where
  k : TK
  size : Nat
  bytes : Nat
  zero : Option (List PV)
  deriving Inhabited

def TKok (P : Program) : TypeDesc → TK → Prop
  | .int k, .int k' => k = k'
  | .bool, .bool => True
  | .string, .str => True
  | .slice e, .slice e' => e = e'
  | .struct fields, .strct fs => fields.size = fs.length ∧ ∀ (j : Nat) (f : Field) (p : Nat × Nat), fields[j]? = some f → fs[j]? = some p → f.offset = p.1 ∧ ∃ fi, P.info? f.type = some fi ∧ fi.size = p.2
  | .map k e, .map k' e' => k = k' ∧ e = e'
  | .pointer e, .ptr e' => e = e'
  | .interface _, .iface => True
  | _, .other => True
  | _, _ => False

/-- The closed readings: over no memory. -/
def Zero1 (v : Value) (p : PV) : Prop := p.one = true ∧ (∀ (Φ : Nat → Nat → Prop) (w : World), Rep Φ w v p) ∧ (p = .slice [] → v = .slice none 0 0)

structure TOne (P : Program) (t : TypeId) (ti : TI) : Prop where
  info : ∃ i d, P.info? t = some i ∧ i.size = ti.size ∧ i.bytes = ti.bytes ∧ P.underlying t = some d ∧ TKok P d ti.k ∧
    (∀ zs, ti.zero = some zs → ∃ z, i.zero = some z ∧ z.cells.toList.length = zs.length ∧ zs.length = ti.size ∧ (∀ (k : Nat) v c, z.cells.toList[k]? = some v → zs[k]? = some c → Zero1 v c) ∧
      (∀ fs, ti.k = .strct fs → ∃ cs, z = .agg cs) ∧ ((∀ fs, ti.k ≠ .strct fs) → z.cells = #[z]))

/-- The kinds of cells that are compared. -/
inductive EK where
  | bool
  | str
  | int
  deriving DecidableEq, Inhabited

def EK.fits : EK → TypeDesc → Prop
  | .bool, d => d = .bool
  | .str, d => d = .string
  | .int, d => ∃ k, d = .int k

/-- A structure whose values are compared field by field. -/
structure EqOne (P : Program) (t : TypeId) (ks : List EK) : Prop where
  ex : ∃ fields : Array Field, P.underlying t = some (.struct fields) ∧ P.stoodInHeld t = false ∧ P.eqGuardType P.depth t = false ∧ fields.size = ks.length ∧
    ∀ (j : Nat) f k, fields[j]? = some f → ks[j]? = some k → f.name ≠ "_" ∧ f.offset = j ∧ ∃ d, P.underlying f.type = some d ∧ k.fits d

/-- What a proof is about: the program, its table of types, what its package variables hold. -/
structure Env where
  P : Program
  T : Nat → Option TI
  hT : ∀ t ti, T t = some ti → TOne P t ti
  gN : Nat
  GI : World → Prop
  hG : ∀ w w' : World, GI w → (∀ b, b < gN → w'.heap[b]? = w.heap[b]?) → GI w'
  bT : Option TypeId
  be : TypeId
  eqT : TypeId → Option (List EK)
  ownT : TypeId → Bool
  hEq : ∀ t ks, eqT t = some ks → EqOne P t ks
  hbT : ∀ t, bT = some t → ∀ w : World, (zeroValue t).run P w = .ok (.agg #[.pointer none, .slice none 0 0]) w

/-- An object and what stands for it. -/
def ObjRel (E : Env) (γ : List Gh) (H : List AObj) (Φ : Nat → Nat → Prop) (w : World) : AObj → Gh → Prop
  | .var cs, g => ∃ b T vs, g.v = .pointer (some ⟨b, 0, none⟩) ∧ g.own = [b] ∧ w.heap[b]? = some (.cells ⟨vs⟩ T (0, 0)) ∧ vs.length = cs.length ∧
      (∀ (k : Nat) v c, vs[k]? = some v → cs[k]? = some c → v.oneCell' = true ∧ ARel γ H Φ w v c) ∧ ∀ k, ¬ Φ b k
  | .row e sz xs fz, g => ∃ cells, w.ownsRow 0 e sz g.v xs.length cells ∧ cells.length = (flat xs).length ∧
      (∀ (k : Nat) v c, cells[k]? = some v → (flat xs)[k]? = some c → Rep Φ w v c) ∧ (∀ x ∈ xs, x.cells.length = sz) ∧ (∀ c ∈ flat xs, c.one = true) ∧ g.own = g.v.ownBlock.toList ∧
      0 < sz ∧ (∀ b, g.v.ownBlock = some b → ∀ k, (Φ b k → fz = true ∧ k < xs.length * sz) ∧ (fz = true → k < xs.length * sz → Φ b k))
  | .map es, g => ∃ b ents clock, g.v = .map (some b) ∧ g.own = [b] ∧ w.heap[b]? = some (.map ents clock) ∧ ents.size = es.length ∧
      (∀ (k : Nat) x p, ents[k]? = some x → es[k]? = some p → Rep Φ w x.key p.1 ∧ Rep Φ w x.val p.2) ∧ ∀ k, ¬ Φ b k
  | .bld s, g => ∃ b p v, g.v = .pointer (some ⟨b, 0, none⟩) ∧ g.own = b :: v.ownBlock.toList ∧ (p = .pointer none ∨ p = .pointer (some ⟨b, 0, none⟩)) ∧
      w.heap[b]? = some (.cells #[p, v] (E.bT.getD 0) (0, 0)) ∧ w.ownsRow 0 E.be 1 v s.length (s.map fun u => Value.int .u8 u.toNat) ∧ v.ownBlock ≠ some b ∧
      (∀ k, ¬ Φ b k) ∧ ∀ c, v.ownBlock = some c → ∀ k, ¬ Φ c k
  | .iter s p, g => ∃ b, g.v = .pointer (some ⟨b, 0, none⟩) ∧ g.own = [b] ∧ w.heap[b]? = some (.stringIter ⟨⟨s⟩⟩ p) ∧ ∀ k, ¬ Φ b k
  | .gone, _ => True

/-- The state of the memory that a call keeps. -/
structure OInv (E : Env) (γ : List Gh) (H : List AObj) (Φ : Nat → Nat → Prop) (w : World) : Prop where
  len : γ.length = H.length
  obj : ∀ (l : Nat) o g, H[l]? = some o → γ[l]? = some g → ObjRel E γ H Φ w o g
  disj : ∀ (i j : Nat) gi gj, γ[i]? = some gi → γ[j]? = some gj → i ≠ j → ∀ b ∈ gi.own, b ∉ gj.own
  own : ∀ (i : Nat) g, γ[i]? = some g → ∀ b ∈ g.own, E.gN ≤ b ∧ b < w.heap.size
  phi : ∀ b k, Φ b k → b < w.heap.size
  gi : E.GI w
  gn : E.gN ≤ w.heap.size

theorem OInv.gh {E : Env} {γ : List Gh} {H : List AObj} {Φ : Nat → Nat → Prop} {w : World} (h : OInv E γ H Φ w) {l : Nat} {o : AObj} (ho : H[l]? = some o) :
    ∃ g, γ[l]? = some g ∧ ObjRel E γ H Φ w o g := by
  have hl : l < γ.length := by
    rw [h.len]
    exact (List.getElem?_eq_some_iff.1 ho).1
  exact ⟨γ[l], List.getElem?_eq_getElem hl, h.obj l o _ ho (List.getElem?_eq_getElem hl)⟩

/-! ### flat -/

theorem flat_nil : flat [] = [] := rfl
theorem flat_cons (x : PV) (xs : List PV) : flat (x :: xs) = x.cells ++ flat xs := rfl
theorem flat_append (xs ys : List PV) : flat (xs ++ ys) = flat xs ++ flat ys := by simp [flat]

theorem flat_length {sz : Nat} : ∀ {xs : List PV}, (∀ x ∈ xs, x.cells.length = sz) → (flat xs).length = xs.length * sz
  | [], _ => by simp [flat_nil]
  | x :: xs, h => by
    rw [flat_cons, List.length_append, h x (by simp), flat_length fun y hy => h y (by simp [hy]), List.length_cons, Nat.succ_mul]
    omega

theorem flat_at {sz : Nat} : ∀ {xs : List PV}, (∀ x ∈ xs, x.cells.length = sz) → ∀ (i k : Nat) (x : PV), xs[i]? = some x → k < sz → (flat xs)[i * sz + k]? = x.cells[k]?
  | [], _, i, k, x, hx, _ => by simp at hx
  | y :: xs, h, 0, k, x, hx, hk => by
    simp only [List.getElem?_cons_zero, Option.some.injEq] at hx
    subst hx
    rw [flat_cons, List.getElem?_append_left (by rw [h y (by simp)]; omega)]
    congr 1
    omega
  | y :: xs, h, i + 1, k, x, hx, hk => by
    have hy := h y (by simp)
    rw [flat_cons, List.getElem?_append_right (by rw [hy, Nat.succ_mul]; omega), hy]
    rw [show (i + 1) * sz + k - sz = i * sz + k from by rw [Nat.succ_mul]; omega]
    exact flat_at (fun z hz => h z (by simp [hz])) i k x (by simpa using hx) hk

theorem flat_mem {xs : List PV} {x c : PV} (hx : x ∈ xs) (hc : c ∈ x.cells) : c ∈ flat xs := List.mem_flatMap.2 ⟨x, hx, hc⟩

theorem flat_take {sz : Nat} {xs : List PV} (h : ∀ x ∈ xs, x.cells.length = sz) (n : Nat) (hn : n ≤ xs.length) : flat (xs.take n) = (flat xs).take (n * sz) := by
  have e : flat xs = flat (xs.take n) ++ flat (xs.drop n) := by rw [← flat_append, List.take_append_drop]
  have hl : (flat (xs.take n)).length = n * sz := by
    rw [flat_length fun x hx => h x (List.mem_of_mem_take hx), List.length_take, Nat.min_eq_left hn]
  rw [congrArg (List.take (n * sz)) e, List.take_left' hl]

theorem flat_drop {sz : Nat} {xs : List PV} (h : ∀ x ∈ xs, x.cells.length = sz) (n : Nat) (hn : n ≤ xs.length) : flat (xs.drop n) = (flat xs).drop (n * sz) := by
  have e : flat xs = flat (xs.take n) ++ flat (xs.drop n) := by rw [← flat_append, List.take_append_drop]
  have hl : (flat (xs.take n)).length = n * sz := by
    rw [flat_length fun x hx => h x (List.mem_of_mem_take hx), List.length_take, Nat.min_eq_left hn]
  rw [congrArg (List.drop (n * sz)) e, List.drop_left' hl]

/-! ### Slots -/

def constAV : Value → AV
  | .bool b => .pv (.bool b)
  | .int k n => .pv (.int k n)
  | .string s => .pv (.str s.data.toList)
  | .slice none 0 0 => .nils
  | .nilIface => .pv .nil
  | _ => .any

def ev (t : Nat → AV) : Operand → AV
  | .tmp i => t i
  | .const v => constAV v
  | .func f => .fn f []
  | _ => .any

def upd (t : Nat → AV) (i : Nat) (v : AV) : Nat → AV := fun j => if j = i then v else t j

theorem constAV_rel {γ : List Gh} {H : List AObj} {Φ : Nat → Nat → Prop} {w : World} (v : Value) : ARel γ H Φ w v (constAV v) := by
  unfold constAV
  split
  · exact .pv (.bool _)
  · exact .pv (.int _ _)
  · rename_i s; exact .pv (.str s.data.toList)
  · exact .nils
  · exact .pv .nil
  · exact .any _

/-- Every slot holds what the abstract state says. -/
def Slots (γ : List Gh) (H : List AObj) (Φ : Nat → Nat → Prop) (w : World) (a : Act) (t : Nat → AV) : Prop := ∀ i, ARel γ H Φ w (a.tmps.getD i undef) (t i)

theorem ev_rel {γ : List Gh} {H : List AObj} {Φ : Nat → Nat → Prop} {w : World} {a : Act} {t : Nat → AV} (hs : Slots γ H Φ w a t) (x : Operand) : ARel γ H Φ w (a.eval x) (ev t x) := by
  cases x with
  | tmp i => exact hs i
  | const v => exact constAV_rel v
  | func f => exact .fn f [] [] rfl (fun k v l hv => by simp at hv)
  | _ => exact .any _

/-- A slice that is nil, or full, as a plain slice. -/
def nrm : AV → AV
  | .nils => .pv (.slice [])
  | .full xs => .pv (.slice xs)
  | a => a

theorem nrm_rel {γ : List Gh} {H : List AObj} {Φ : Nat → Nat → Prop} {w : World} {v : Value} {a : AV} (h : ARel γ H Φ w v a) : ARel γ H Φ w v (nrm a) := by
  cases h with
  | nils => exact .pv .sliceNil
  | full A n xs h => exact .pv h
  | any v => exact .any v
  | pv h => exact .pv h
  | ref b l off h => exact .ref b l off h
  | pptr b o cs vs h1 h2 h3 => exact .pptr b o cs vs h1 h2 h3
  | vec A l n cap e sz xs fz h1 h2 h3 h4 => exact .vec A l n cap e sz xs fz h1 h2 h3 h4
  | vptr b o l n i off e sz xs fz h1 h2 h3 => exact .vptr b o l n i off e sz xs fz h1 h2 h3
  | mref b l h => exact .mref b l h
  | tup ws vs h1 h2 => exact .tup ws vs h1 h2
  | agg ws vs h1 h2 h3 => exact .agg ws vs h1 h2 h3
  | fn f cs caps h1 h2 => exact .fn f cs caps h1 h2

def toPV (H : List AObj) : AV → Option PV
  | .pv p => some p
  | .nils => some (.slice [])
  | .full xs => some (.slice xs)
  | .vec l n => match H[l]? with
    | some (.row _ _ xs true) => if xs.length = n then some (.slice xs) else none
    | _ => none
  | _ => none

theorem row_rep {E : Env} {γ : List Gh} {H : List AObj} {Φ : Nat → Nat → Prop} {w : World} {e : TypeId} {sz : Nat} {xs : List PV} {g : Gh} (h : ObjRel E γ H Φ w (.row e sz xs true) g) : Rep Φ w g.v (.slice xs) := by
  obtain ⟨cells, hown, hcl, hrep, hsz, h1, _, _, hphi⟩ := h
  have hfl := flat_length hsz
  rcases hown.2 with ⟨hv, hn⟩ | ⟨b, cap, cur, hv, _, hb, hnc, hcm, hcs, htake⟩
  · have hx : xs = [] := List.eq_nil_of_length_eq_zero hn
    subst hx
    rw [hv]
    exact .sliceNil
  · rw [hv]
    refine .slice b 0 xs.length cap sz xs (fun k => cells.getD k undef) rfl hnc hcm hsz h1 (fun k hk => ?_) (fun k c hc => ?_)
    · have hk' : k < cells.length := by omega
      refine ⟨(hphi b (by rw [hv]; rfl) _).2 rfl (by omega), ?_⟩
      have hc := hown.cells (g := b) (by rw [hv]; rfl) k cells[k] (List.getElem?_eq_getElem hk')
      rw [Addr.add_lit] at hc
      rw [hc, List.getD_eq_getElem?_getD, List.getElem?_eq_getElem hk']
      rfl
    · have hk : k < (flat xs).length := (List.getElem?_eq_some_iff.1 hc).1
      have hk' : k < cells.length := by omega
      have := hrep k cells[k] c (List.getElem?_eq_getElem hk') hc
      rwa [List.getD_eq_getElem?_getD, List.getElem?_eq_getElem hk']

theorem toPV_rep {E : Env} {γ : List Gh} {H : List AObj} {Φ : Nat → Nat → Prop} {w : World} (hI : OInv E γ H Φ w) {v : Value} {a : AV} {p : PV} (h : ARel γ H Φ w v a) (hp : toPV H a = some p) : Rep Φ w v p := by
  cases h with
  | pv h => simp [toPV] at hp; exact hp ▸ h
  | vec A l n cap e sz xs fz hrow hn hA h =>
    simp only [toPV, hrow] at hp
    cases fz with
    | false => simp at hp
    | true =>
      simp only at hp
      split at hp
      · rename_i hx
        simp only [Option.some.injEq] at hp
        subst hp
        obtain ⟨g, hg, ho⟩ := hI.gh hrow
        have hr := row_rep ho
        have hv := h hx
        simp only [gv, hg, Option.map_some, Option.some.injEq] at hv
        rwa [hv] at hr
      · cases hp
  | any => simp [toPV] at hp
  | ref => simp [toPV] at hp
  | pptr => simp [toPV] at hp
  | vptr => simp [toPV] at hp
  | mref => simp [toPV] at hp
  | nils => simp [toPV] at hp; subst hp; exact .sliceNil
  | full A n xs h => simp [toPV] at hp; subst hp; exact h
  | tup => simp [toPV] at hp
  | agg => simp [toPV] at hp
  | fn => simp [toPV] at hp

end Go.Abs
