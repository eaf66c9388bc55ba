import Derived.Test.YtkiajanddmgmnaaGreatDoorA20
/- The abstract machine, part 21: a program's types by one computed check. -/
namespace Go.Abs

def zokB : Value → PV → Bool
  | .bool a, .bool b => a == b
  | .int k a, .int k' b => decide (k = k') && a == b
  | .string s, .str l => s.data.toList == l
  | .slice none 0 0, .slice [] => true
  | .nilIface, .nil => true
  | _, _ => false

theorem zokB_sound {v : Value} {p : PV} (h : zokB v p = true) : Zero1 v p := by
  unfold zokB at h
  split at h
  · simp only [beq_iff_eq] at h
    subst h
    exact ⟨rfl, fun _ _ => .bool _, fun h => by cases h⟩
  · simp only [Bool.and_eq_true, decide_eq_true_eq, beq_iff_eq] at h
    obtain ⟨rfl, rfl⟩ := h
    exact ⟨rfl, fun _ _ => .int _ _, fun h => by cases h⟩
  · rename_i s l
    have : s.data.toList = l := by simpa using h
    subst this
    exact ⟨rfl, fun _ _ => .str _, fun h => by cases h⟩
  · exact ⟨rfl, fun _ _ => .sliceNil, fun _ => rfl⟩
  · exact ⟨rfl, fun _ _ => .nil, fun h => by cases h⟩
  · cases h

def zlistB : List Value → List PV → Bool
  | [], [] => true
  | v :: vs, p :: ps => zokB v p && zlistB vs ps
  | _, _ => false

theorem zlistB_sound : ∀ {vs : List Value} {ps : List PV}, zlistB vs ps = true → vs.length = ps.length ∧ ∀ (k : Nat) v c, vs[k]? = some v → ps[k]? = some c → Zero1 v c
  | [], [], _ => ⟨rfl, fun k v c hv => by simp at hv⟩
  | v :: vs, p :: ps, h => by
    simp only [zlistB, Bool.and_eq_true] at h
    obtain ⟨h1, h2⟩ := zlistB_sound h.2
    refine ⟨by simp [h1], fun k u c hu hc => ?_⟩
    cases k with
    | zero => simp only [List.getElem?_cons_zero, Option.some.injEq] at hu hc; subst hu hc; exact zokB_sound h.1
    | succ k => rw [List.getElem?_cons_succ] at hu hc; exact h2 k u c hu hc
  | [], _ :: _, h => by simp [zlistB] at h
  | _ :: _, [], h => by simp [zlistB] at h

def fieldsB (P : Program) : List Field → List (Nat × Nat) → Bool
  | [], [] => true
  | f :: fs, p :: ps => f.offset == p.1 && (match P.info? f.type with | some i => i.size == p.2 | none => false) && fieldsB P fs ps
  | _, _ => false

theorem fieldsB_sound {P : Program} : ∀ {fs : List Field} {ps : List (Nat × Nat)}, fieldsB P fs ps = true → fs.length = ps.length ∧ ∀ (j : Nat) (f : Field) (p : Nat × Nat), fs[j]? = some f → ps[j]? = some p → f.offset = p.1 ∧ ∃ fi, P.info? f.type = some fi ∧ fi.size = p.2
  | [], [], _ => ⟨rfl, fun k v c hv => by simp at hv⟩
  | f :: fs, p :: ps, h => by
    simp only [fieldsB, Bool.and_eq_true, beq_iff_eq] at h
    obtain ⟨h1, h2⟩ := fieldsB_sound h.2
    refine ⟨by simp [h1], fun k u c hu hc => ?_⟩
    cases k with
    | zero =>
      simp only [List.getElem?_cons_zero, Option.some.injEq] at hu hc
      subst hu hc
      refine ⟨h.1.1, ?_⟩
      have h3 := h.1.2
      split at h3
      · rename_i i hi
        exact ⟨i, hi, by simpa using h3⟩
      · cases h3
    | succ k => rw [List.getElem?_cons_succ] at hu hc; exact h2 k u c hu hc
  | [], _ :: _, h => by simp [fieldsB] at h
  | _ :: _, [], h => by simp [fieldsB] at h

def tkB (P : Program) : TypeDesc → TK → Bool
  | .int k, .int k' => decide (k = k')
  | .bool, .bool => true
  | .string, .str => true
  | .slice e, .slice e' => e == e'
  | .struct fields, .strct fs => fieldsB P fields.toList fs
  | .map k e, .map k' e' => k == k' && e == e'
  | .pointer e, .ptr e' => e == e'
  | .interface _, .iface => true
  | _, .other => true
  | _, _ => false

theorem tkB_sound {P : Program} {d : TypeDesc} {k : TK} (h : tkB P d k = true) : TKok P d k := by
  cases k with
  | other => cases d <;> trivial
  | strct fs =>
    cases d with
    | struct fields =>
      obtain ⟨h1, h2⟩ := fieldsB_sound h
      exact ⟨by simpa using h1, fun j f p hf hp => h2 j f p (by simpa using hf) hp⟩
    | _ => simp [tkB] at h
  | int k => cases d <;> simp_all [tkB, TKok]
  | bool => cases d <;> simp_all [tkB, TKok]
  | str => cases d <;> simp_all [tkB, TKok]
  | slice e => cases d <;> simp_all [tkB, TKok]
  | map k e => cases d <;> simp_all [tkB, TKok]
  | ptr e => cases d <;> simp_all [tkB, TKok]
  | iface => cases d <;> simp_all [tkB, TKok]

def isStrct : TK → Bool
  | .strct _ => true
  | _ => false

def tcheck (P : Program) (t : TypeId) (ti : TI) : Bool :=
  match P.info? t, P.underlying t with
  | some i, some d => i.size == ti.size && i.bytes == ti.bytes && tkB P d ti.k &&
    match ti.zero with
    | none => true
    | some zs => match i.zero with
      | none => false
      | some z => zlistB z.cells.toList zs && zs.length == ti.size && (match z with | .agg _ => isStrct ti.k | _ => !isStrct ti.k)
  | _, _ => false

theorem tcheck_sound {P : Program} {t : TypeId} {ti : TI} (h : tcheck P t ti = true) : TOne P t ti := by
  unfold tcheck at h
  split at h
  · rename_i i d hi hd
    simp only [Bool.and_eq_true, beq_iff_eq] at h
    obtain ⟨⟨⟨h1, h2⟩, h3⟩, h4⟩ := h
    refine ⟨i, d, hi, h1, h2, hd, tkB_sound h3, fun zs hzs => ?_⟩
    rw [hzs] at h4
    simp only at h4
    split at h4
    · cases h4
    · rename_i z hz
      simp only [Bool.and_eq_true, beq_iff_eq] at h4
      obtain ⟨⟨h5, h6⟩, h7⟩ := h4
      obtain ⟨h8, h9⟩ := zlistB_sound h5
      refine ⟨z, hz, h8, h6, h9, fun fs hfs => ?_, fun hn => ?_⟩
      · cases z with
        | agg cs => exact ⟨cs, rfl⟩
        | _ => simp [hfs, isStrct] at h7
      · cases z with
        | agg cs =>
          cases hk : ti.k <;> simp [hk, isStrct] at h7
          exact absurd hk (hn _)
        | _ => rfl
  · cases h

def tabT (tab : List (Nat × TI)) (t : Nat) : Option TI := (tab.find? fun p => p.1 == t).map (·.2)

theorem tabT_sound {P : Program} {tab : List (Nat × TI)} (h : tab.all (fun p => tcheck P p.1 p.2) = true) (t : Nat) (ti : TI) (ht : tabT tab t = some ti) : TOne P t ti := by
  unfold tabT at ht
  obtain ⟨p, hp, rfl⟩ := Option.map_eq_some_iff.1 ht
  have h1 := List.mem_of_find?_eq_some hp
  have h2 := List.find?_some hp
  simp only [beq_iff_eq] at h2
  subst h2
  exact tcheck_sound (List.all_eq_true.1 h p h1)

end Go.Abs
