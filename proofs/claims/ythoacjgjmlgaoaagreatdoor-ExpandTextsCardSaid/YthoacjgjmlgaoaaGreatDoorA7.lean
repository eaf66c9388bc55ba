/- The abstract machine, part 7: the quiet operations are sound: struct literals, maps, conversions, lengths; joined. -/
import Derived.Test.YthoacjgjmlgaoaaGreatDoorA6
namespace Go.Abs
open Go.RowKit

section
variable {E : Env} {γ : List Gh} {H : List AObj} {Φ : Nat → Nat → Prop} {w : World}

/-- Cells that read as these pure cells. -/
def CellsRel (Φ : Nat → Nat → Prop) (w : World) (vs : List Value) (cs : List PV) : Prop :=
  vs.length = cs.length ∧ (∀ c ∈ cs, c.one = true) ∧ ∀ (k : Nat) v c, vs[k]? = some v → cs[k]? = some c → Rep Φ w v c

theorem rep_cells {v : Value} {p : PV} (h : Rep Φ w v p) : CellsRel Φ w v.cells.toList p.cells := by
  cases h with
  | agg vs cs hl h1 hrep => exact ⟨hl, h1, hrep⟩
  | bool b => exact ⟨rfl, by simp [PV.cells, PV.one], fun k v c hv hc => by cases k <;> simp [Value.cells, PV.cells] at hv hc; subst hv hc; exact .bool b⟩
  | int k' n => exact ⟨rfl, by simp [PV.cells, PV.one], fun k v c hv hc => by cases k <;> simp [Value.cells, PV.cells] at hv hc; subst hv hc; exact .int k' n⟩
  | str s => exact ⟨rfl, by simp [PV.cells, PV.one], fun k v c hv hc => by cases k <;> simp [Value.cells, PV.cells] at hv hc; subst hv hc; exact .str s⟩
  | nil => exact ⟨rfl, by simp [PV.cells, PV.one], fun k v c hv hc => by cases k <;> simp [Value.cells, PV.cells] at hv hc; subst hv hc; exact .nil⟩
  | ifc t' v' => exact ⟨rfl, by simp [PV.cells, PV.one], fun k v c hv hc => by cases k <;> simp [Value.cells, PV.cells] at hv hc; subst hv hc; exact .ifc t' v'⟩
  | sliceNil => exact ⟨rfl, by simp [PV.cells, PV.one], fun k v c hv hc => by cases k <;> simp [Value.cells, PV.cells] at hv hc; subst hv hc; exact .sliceNil⟩
  | sliceAny A cap hm => exact ⟨rfl, by simp [PV.cells, PV.one], fun k v c hv hcc => by
      cases k <;> simp [Value.cells, PV.cells] at hv hcc; subst hv hcc; exact .sliceAny A cap hm⟩
  | slice b o len cap sz xs vs hl hc hm hsz h1 hcell hrep => exact ⟨rfl, by simp [PV.cells, PV.one], fun k v c hv hcc => by
      cases k <;> simp [Value.cells, PV.cells] at hv hcc; subst hv hcc; exact .slice b o len cap sz xs vs hl hc hm hsz h1 hcell hrep⟩

/-- The cells of one part laid over others, cell by cell. -/
theorem fill_put (off : Nat) : ∀ (ps : List Value) (j : Nat) (cs : Array Value), off + j + ps.length ≤ cs.size →
    ((ps.zipIdx j).foldl (fun cs (c, j) => cs.setIfInBounds (off + j) c) cs).size = cs.size ∧
    ∀ k : Nat, ((ps.zipIdx j).foldl (fun cs (c, j) => cs.setIfInBounds (off + j) c) cs)[k]? = if off + j ≤ k ∧ k < off + j + ps.length then ps[k - (off + j)]? else cs[k]?
  | [], j, cs, _ => ⟨rfl, fun k => by
      rw [if_neg (by simp)]
      rfl⟩
  | p :: ps, j, cs, h => by
    simp only [List.length_cons] at h
    obtain ⟨h1, h2⟩ := fill_put off ps (j + 1) (cs.setIfInBounds (off + j) p) (by simp; omega)
    rw [List.zipIdx_cons, List.foldl_cons]
    refine ⟨by rw [h1]; simp, fun k => ?_⟩
    rw [h2 k]
    by_cases hk : k = off + j
    · subst hk
      rw [if_neg (by omega), if_pos ⟨by omega, by simp⟩, Array.getElem?_setIfInBounds, if_pos rfl, if_pos (by omega)]
      simp
    · by_cases hin : off + (j + 1) ≤ k ∧ k < off + (j + 1) + ps.length
      · rw [if_pos hin, if_pos ⟨by omega, by simp only [List.length_cons]; omega⟩]
        rw [show k - (off + j) = k - (off + (j + 1)) + 1 from by omega, List.getElem?_cons_succ]
      · rw [if_neg hin, if_neg (by simp only [List.length_cons]; omega), Array.getElem?_setIfInBounds, if_neg (by omega)]

theorem put_at (cs ps : List PV) (off k : Nat) (h : off + ps.length ≤ cs.length) : (putCells cs off ps)[k]? = if off ≤ k ∧ k < off + ps.length then ps[k - off]? else cs[k]? := by
  unfold putCells
  have hl : (cs.take off).length = off := by rw [List.length_take]; omega
  by_cases h1 : k < off
  · rw [if_neg (by omega), List.append_assoc, List.getElem?_append_left (by omega), List.getElem?_take, if_pos h1]
  · rw [List.append_assoc, List.getElem?_append_right (by omega), hl]
    by_cases h2 : k < off + ps.length
    · rw [if_pos ⟨by omega, h2⟩, List.getElem?_append_left (by omega)]
    · rw [if_neg (by omega), List.getElem?_append_right (by omega), List.getElem?_drop]
      congr 1
      omega

theorem put_len (cs ps : List PV) (off : Nat) (h : off + ps.length ≤ cs.length) : (putCells cs off ps).length = cs.length := by
  unfold putCells
  simp only [List.length_append, List.length_take, List.length_drop]
  omega

theorem fill_sound (hI : OInv E γ H Φ w) (fs : List (Nat × Nat)) (place : Nat → Option (Nat × Nat)) (hp : ∀ (i : Nat) p, fs[i]? = some p → place i = some p) :
    ∀ (parts : List (Nat × AV)) (vparts : List (Nat × Value)) (cs : List PV) (vs : Array Value) (r : List PV), vparts.length = parts.length →
      (∀ (j : Nat) (p : Nat × AV) (q : Nat × Value), parts[j]? = some p → vparts[j]? = some q → q.1 = p.1 ∧ ARel γ H Φ w q.2 p.2) → CellsRel Φ w vs.toList cs →
      qfill H fs cs parts = some r → ∃ us, Instr.fill place vs vparts = some us ∧ CellsRel Φ w us.toList r
  | [], vparts, cs, vs, r, hl, _, hcr, h => by
    simp only [qfill, Option.some.injEq] at h
    subst h
    cases vparts with
    | nil => exact ⟨vs, rfl, hcr⟩
    | cons a b => simp at hl
  | (i, v) :: parts, [], cs, vs, r, hl, _, _, _ => by simp at hl
  | (i, v) :: parts, (i', v') :: vparts, cs, vs, r, hl, hrel, hcr, h => by
    simp only [qfill] at h
    split at h
    · rename_i off sz p hf hpv
      split at h
      · rename_i hsz
        obtain ⟨hsz, hoff⟩ := hsz
        obtain ⟨he, hr⟩ := hrel 0 (i, v) (i', v') rfl rfl
        simp only at he
        subst he
        have hrep := toPV_rep hI hr hpv
        obtain ⟨hcl, hc1, hcc⟩ := rep_cells hrep
        have hvl : v'.cells.size = sz := by rw [← hsz, ← hcl]; simp
        obtain ⟨hl1, hl2, hl3⟩ := hcr
        have hsize : vs.size = cs.length := by rw [← hl1]; simp
        obtain ⟨f1, f2⟩ := fill_put off v'.cells.toList 0 vs (by simp; omega)
        have hfold : v'.cells.zipIdx.foldl (fun cs (c, j) => cs.setIfInBounds (off + j) c) vs = (v'.cells.toList.zipIdx 0).foldl (fun cs (c, j) => cs.setIfInBounds (off + j) c) vs := by
          rw [← Array.foldl_toList, Array.toList_zipIdx]
        have hstep : Instr.fill place vs ((i', v') :: vparts) = Instr.fill place ((v'.cells.toList.zipIdx 0).foldl (fun cs (c, j) => cs.setIfInBounds (off + j) c) vs) vparts := by
          rw [← hfold]
          simp only [Instr.fill, hp _ _ hf]
          rw [if_neg]
          simp only [hvl, ne_eq, not_true_eq_false, decide_false, Bool.false_or, decide_eq_true_eq]
          omega
        rw [hstep]
        have hpc : off + p.cells.length ≤ cs.length := by omega
        refine fill_sound hI fs place hp parts vparts _ _ r (by simpa using hl) (fun j a b ha hb => hrel (j + 1) a b (by simpa using ha) (by simpa using hb)) ⟨?_, fun c hc => ?_, fun k x c hx hc => ?_⟩ h
        · rw [Array.length_toList, f1, put_len _ _ _ hpc, hsize]
        · obtain ⟨k, hk, hkc⟩ := List.getElem_of_mem hc
          have hg : (putCells cs off p.cells)[k]? = some c := by rw [List.getElem?_eq_getElem hk, hkc]
          rw [put_at _ _ _ _ hpc] at hg
          split at hg
          · exact hc1 c (List.mem_of_getElem? hg)
          · exact hl2 c (List.mem_of_getElem? hg)
        · rw [Array.getElem?_toList, f2 k] at hx
          rw [put_at _ _ _ _ hpc] at hc
          have hlen : v'.cells.toList.length = p.cells.length := hcl
          by_cases hin : off ≤ k ∧ k < off + p.cells.length
          · rw [if_pos ⟨by omega, by omega⟩] at hx
            rw [if_pos hin] at hc
            exact hcc _ x c hx hc
          · rw [if_neg (by omega)] at hx
            rw [if_neg hin] at hc
            exact hl3 k x c (by rw [Array.getElem?_toList]; exact hx) hc
      · cases h
    · cases h

theorem qbuild_sound (hI : OInv E γ H Φ w) {t : TypeId} {parts : List (Nat × AV)} {vparts : Array (Nat × Value)} (hl : vparts.size = parts.length)
    (hrel : ∀ (j : Nat) (p : Nat × AV) (q : Nat × Value), parts[j]? = some p → vparts[j]? = some q → q.1 = p.1 ∧ ARel γ H Φ w q.2 p.2) {r : AV} (h : qbuild E.T H t parts = some r) :
    ∃ u, (Instr.build t vparts).run E.P w = .ok u w ∧ ARel γ H Φ w u r := by
  unfold qbuild at h
  split at h
  · rename_i fs _ _ z hT
    obtain ⟨cs, hcs, rfl⟩ := Option.map_eq_some_iff.1 h
    obtain ⟨i, d, hi, hs, _, hd, hk, hz⟩ := (E.hT _ _ hT).info
    obtain ⟨fields, rfl, hsize, hfs⟩ := tk_strct hk
    obtain ⟨zv, hzv, hzl, _, hzr, _⟩ := hz z rfl
    have hplaces : ∀ (l : List Field) (k : Nat), (∀ (j : Nat) f, l[j]? = some f → fields[k + j]? = some f) →
        (l.mapM (fun f => do pure (f.offset, ← sizeOf f.type) : Field → Sem (Nat × Nat))).run E.P w = .ok ((fs.drop k).take l.length) w := by
      intro l
      induction l with
      | nil => intro k _; simp
      | cons f l ih =>
        intro k hf
        have h0 := hf 0 f rfl
        rw [Nat.add_zero] at h0
        have hkl : k < fs.length := by
          have := (Array.getElem?_eq_some_iff.1 h0).1
          omega
        obtain ⟨hoff, fi, hfi, hfsz⟩ := hfs k f fs[k] h0 (List.getElem?_eq_getElem hkl)
        have hrest := ih (k + 1) (fun j g hg => by
          have := hf (j + 1) g (by simpa using hg)
          rw [show k + 1 + j = k + (j + 1) from by omega]
          exact this)
        have hone : (do pure (f.offset, ← sizeOf f.type) : Sem (Nat × Nat)).run E.P w = .ok fs[k] w := by
          simp [run_sizeOf hfi, hoff, hfsz]
        simp only [bind] at hrest
        simp only [List.mapM_cons, bind, Sem.run_bind'] at hone ⊢
        rw [hone]
        simp only [Result.andThen_ok, hrest]
        rw [List.drop_eq_getElem_cons hkl, List.length_cons, List.take_succ_cons]
        rfl
    have hmap : (fields.mapM (fun f => do pure (f.offset, ← sizeOf f.type) : Field → Sem (Nat × Nat))).run E.P w = .ok fs.toArray w := by
      have := hplaces fields.toList 0 (fun j f hf => by simpa using hf)
      rw [Array.mapM_eq_mapM_toList, Sem.run_map, this]
      simp [hsize]
    have hz1 : ∀ c ∈ z, c.one = true := fun c hc => by
      obtain ⟨k, hkk, hkc⟩ := List.getElem_of_mem hc
      have hkv : k < zv.cells.toList.length := by omega
      exact (hzr k zv.cells.toList[k] c (List.getElem?_eq_getElem hkv) (by rw [List.getElem?_eq_getElem hkk, hkc])).1
    obtain ⟨us, hus, hur⟩ := fill_sound hI fs (fs.toArray[·]?) (fun i p hp => by simpa using hp) parts vparts.toList z zv.cells cs (by simpa using hl)
      (fun j p q hp hq => hrel j p q hp (by simpa using hq)) ⟨hzl, hz1, fun k v c hv hc => (hzr k v c hv hc).2.1 Φ w⟩ hcs
    refine ⟨.agg us, ?_, .pv (.agg us.toList cs hur.1 hur.2.1 hur.2.2)⟩
    unfold Instr.build
    simp only [bind] at hmap
    simp only [bind, Sem.run_bind']
    have hzrun : (zeroValue t).run E.P w = .ok zv w := by simp [zeroValue, typeInfo, hi, hzv]
    simp only [hzrun, Result.andThen_ok, run_underlying hd, Sem.run_bind', hmap]
    rw [hus]
    rfl
  · cases h

end
end Go.Abs
