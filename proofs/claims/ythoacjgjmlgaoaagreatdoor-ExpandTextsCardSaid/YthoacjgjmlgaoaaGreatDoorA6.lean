/- The abstract machine, part 6: the quiet operations are sound: indexes, slices, structs, maps; joined. -/
import Derived.Test.YthoacjgjmlgaoaaGreatDoorA5
namespace Go.Abs
open Go.RowKit

section
variable {E : Env} {γ : List Gh} {H : List AObj} {Φ : Nat → Nat → Prop} {w : World}

theorem rep_int {v : Value} {k : IntKind} {n : Int} (h : Rep Φ w v (.int k n)) : v = .int k n := by cases h; rfl
theorem rep_bool {v : Value} {b : Bool} (h : Rep Φ w v (.bool b)) : v = .bool b := by cases h; rfl
theorem rep_str {v : Value} {s : List UInt8} (h : Rep Φ w v (.str s)) : v = .string ⟨⟨s⟩⟩ := by cases h; rfl

theorem run_indexAt {t e : TypeId} {te : TypeInfo} (hd : E.P.underlying t = some (.slice e)) (he : E.P.info? e = some te) (b o len cap : Nat) (k : IntKind) (i : Int) (h0 : 0 ≤ i) (h1 : i.toNat < len) :
    (Instr.indexAt t (.slice (some ⟨b, o, none⟩) len cap) (.int k i)).run E.P w = .ok (.pointer (some ⟨b, o + i.toNat * te.size, none⟩)) w := by
  have hi : 0 ≤ i ∧ i < (len : Int) := ⟨h0, by omega⟩
  simp [Instr.indexAt, asIntOf, run_underlying hd, hi, run_sizeOf he, Addr.add_lit]

theorem qindexAddr_sound {t : TypeId} {a c : Value} {x y r : AV} (ha : ARel γ H Φ w a x) (hc : ARel γ H Φ w c y) (h : qindexAddr E.T H t x y = some r) :
    ∃ u, (Instr.indexAt t a c).run E.P w = .ok u w ∧ ARel γ H Φ w u r := by
  unfold qindexAddr at h
  split at h
  · rename_i e _ _ _ hT
    split at h
    · rename_i te k i hTe
      obtain ⟨d, hd, hk⟩ := (E.hT _ _ hT).und
      have hdd := tk_slice hk
      rw [hdd] at hd
      obtain ⟨ti, hti, htis⟩ := (E.hT _ _ hTe).size
      have hcv := rep_int (arel_pv hc)
      subst hcv
      split at h
      · rename_i h0
        cases ha with
        | @pv v p hp =>
          cases hp with
          | slice b o len cap sz xs vs hl hcc hm hsz h1 hcell hrep =>
            simp only at h
            split at h
            · rename_i z hz
              split at h
              · rename_i hzs
                simp only [Option.some.injEq] at h
                subst h
                have hlt := (List.getElem?_eq_some_iff.1 hz).1
                have hsz' : sz = te.size := by rw [← hzs]; exact (hsz z (List.mem_of_getElem? hz)).symm
                have hzl : z.cells.length = sz := by rw [hzs, hsz']
                have hmul : i.toNat * sz + sz ≤ xs.length * sz := by
                  have := Nat.mul_le_mul_right sz (show i.toNat + 1 ≤ xs.length from hlt)
                  rw [Nat.succ_mul] at this
                  exact this
                have hfl := flat_length hsz
                refine ⟨_, run_indexAt hd hti b o len cap k i h0 (by omega), .pptr b _ _ (fun j => vs (i.toNat * sz + j)) (fun q hq => h1 q (flat_mem (List.mem_of_getElem? hz) hq)) (fun j hj => ?_) (fun j q hq => ?_)⟩
                · have := hcell (i.toNat * sz + j) (by omega)
                  rw [htis, ← hsz', Nat.add_assoc]
                  exact this
                · have hj : j < z.cells.length := (List.getElem?_eq_some_iff.1 hq).1
                  refine hrep _ q ?_
                  rw [flat_at hsz i.toNat j z hz (by omega)]
                  exact hq
              · cases h
            · cases h
          | sliceNil => simp at h
          | sliceAny A cap hm => simp at h
          | bool => simp at h
          | int => simp at h
          | str => simp at h
          | nil => simp at h
          | ifc t v => simp at h
          | agg => simp at h
        | vec A l n cap e' sz xs fz hrow hn hA hcur =>
          simp only [hrow] at h
          split at h
          · rename_i hlt
            obtain ⟨hlt, hsz⟩ := hlt
            simp only [Option.some.injEq] at h
            subst h
            obtain ⟨b, rfl⟩ := hA (by omega)
            exact ⟨_, run_indexAt hd hti b 0 n cap k i h0 hlt, .vptr b _ l n i.toNat 0 e' sz xs fz hrow hn (fun hx => ⟨cap, hcur hx, by rw [htis, hsz]; omega⟩)⟩
          · cases h
        | any => simp at h
        | ref => simp at h
        | pptr => simp at h
        | vptr => simp at h
        | mref => simp at h
        | nils => simp at h
        | full => simp at h
        | tup => simp at h
        | agg => simp at h
        | fn => simp at h
      · cases h
    · cases h
  · cases h

theorem qindex_sound {t : TypeId} {a c : Value} {x y r : AV} (ha : ARel γ H Φ w a x) (hc : ARel γ H Φ w c y) (h : qindex E.T t x y = some r) :
    ∃ u, (Instr.index t a c).run E.P w = .ok u w ∧ ARel γ H Φ w u r := by
  unfold qindex at h
  split at h
  · rename_i s k i hT
    obtain ⟨d, hd, hk⟩ := (E.hT _ _ hT).und
    have hdd := tk_str hk
    rw [hdd] at hd
    have hcv := rep_int (arel_pv hc)
    have hav := rep_str (arel_pv ha)
    subst hcv; subst hav
    split at h
    · rename_i h0
      split at h
      · rename_i b hb
        simp only [Option.some.injEq] at h
        subst h
        have hlt := (List.getElem?_eq_some_iff.1 hb)
        obtain ⟨hlt, hbe⟩ := hlt
        have hget : (⟨⟨s⟩⟩ : ByteArray)[i.toNat]? = some b := by
          rw [ByteArray.getElem?_lt' _ _ hlt]
          exact congrArg some hbe
        refine ⟨_, ?_, .pv (.int .u8 _)⟩
        simp [Instr.index, asIntOf, run_underlying hd, h0, hget]
      · cases h
    · cases h
  · cases h

theorem boundOr_sound {d n : Nat} {o : Option AV} {v : Option Value} (h : boundOr d o = some n) (hr : ∀ a x, o = some a → v = some x → ARel γ H Φ w x a) (hn : o = none ↔ v = none) :
    (o = none ∧ v = none ∧ n = d) ∨ ∃ k, v = some (.int k (n : Int)) := by
  unfold boundOr at h
  split at h
  · simp only [Option.some.injEq] at h
    exact .inl ⟨rfl, hn.1 rfl, h.symm⟩
  · rename_i k i
    split at h
    · rename_i h0
      simp only [Option.some.injEq] at h
      subst h
      cases v with
      | none => exact absurd (hn.2 rfl) (by simp)
      | some x =>
        have hx := rep_int (arel_pv (hr _ x rfl rfl))
        subst hx
        exact .inr ⟨k, by rw [Int.toNat_of_nonneg h0]⟩
    · cases h
  · cases h

theorem run_bounds (isSlice : Bool) (len cap l hh : Nat) (lo hi : Option Value) (hlo : (lo = none ∧ l = 0) ∨ ∃ k, lo = some (.int k (l : Int))) (hhi : (hi = none ∧ hh = len) ∨ ∃ k, hi = some (.int k (hh : Int)))
    (h1 : l ≤ hh) (h2 : hh ≤ cap) : (Instr.sliceBounds isSlice len cap lo hi none).run E.P w = .ok (l, hh, cap) w := by
  have hb : ∀ (k : IntKind) (i y : Nat) (code : BoundsCode), i ≤ y → (Instr.sliceBound (.int k (i : Int)) y code).run E.P w = .ok i w := fun k i y code hi => by
    have : 0 ≤ (i : Int) ∧ (i : Int) ≤ (y : Int) := ⟨by omega, by omega⟩
    simp [Instr.sliceBound, asIntOf, this]
  unfold Instr.sliceBounds
  rcases hlo with ⟨rfl, rfl⟩ | ⟨k, rfl⟩ <;> rcases hhi with ⟨rfl, rfl⟩ | ⟨k', rfl⟩ <;> simp [hb, h1, h2]

theorem qslice_sound (hI : OInv E γ H Φ w) {t : TypeId} {a : Value} {x r : AV} {lo hi : Option AV} {vlo vhi : Option Value} (ha : ARel γ H Φ w a x)
    (hlr : ∀ a x, lo = some a → vlo = some x → ARel γ H Φ w x a) (hln : lo = none ↔ vlo = none) (hhr : ∀ a x, hi = some a → vhi = some x → ARel γ H Φ w x a) (hhn : hi = none ↔ vhi = none)
    (h : qslice E.T H t x lo hi = some r) : ∃ u, (Instr.sliceAt t a vlo vhi none).run E.P w = .ok u w ∧ ARel γ H Φ w u r := by
  unfold qslice at h
  split at h
  · rename_i hT
    obtain ⟨d, hd, hk⟩ := (E.hT _ _ hT).und
    have hdd := tk_str hk
    rw [hdd] at hd
    split at h
    · rename_i s
      have hav := rep_str (arel_pv ha)
      subst hav
      split at h
      · rename_i l hh hl hhh
        split at h
        · rename_i hb
          obtain ⟨hb1, hb2⟩ := hb
          simp only [Option.some.injEq] at h
          subst h
          have hlo : (vlo = none ∧ l = 0) ∨ ∃ k, vlo = some (.int k (l : Int)) := by
            rcases boundOr_sound hl hlr hln with ⟨_, h1, h2⟩ | h1
            · exact .inl ⟨h1, h2⟩
            · exact .inr h1
          have hhi : (vhi = none ∧ hh = s.length) ∨ ∃ k, vhi = some (.int k (hh : Int)) := by
            rcases boundOr_sound hhh hhr hhn with ⟨_, h1, h2⟩ | h1
            · exact .inl ⟨h1, h2⟩
            · exact .inr h1
          have hrb := run_bounds (E := E) (w := w) false s.length s.length l hh vlo vhi hlo hhi hb1 hb2
          have hsz : (⟨⟨s⟩⟩ : ByteArray).size = s.length := rfl
          refine ⟨.string ((⟨⟨s⟩⟩ : ByteArray).extract l hh), ?_, ?_⟩
          · simp [Instr.sliceAt, Instr.slice, run_underlying hd, hsz, hrb]
          · rw [ByteArray.extract_mk]
            exact .pv (.str _)
        · cases h
      · cases h
    · cases h
  · rename_i e _ _ _ hT
    obtain ⟨d, hd, hk⟩ := (E.hT _ _ hT).und
    have hdd := tk_slice hk
    rw [hdd] at hd
    split at h
    · rename_i te xs hTe hpv
      obtain ⟨ti, hti, htis⟩ := (E.hT _ _ hTe).size
      have hrep := toPV_rep hI ha hpv
      split at h
      · rename_i l hh hl hhh
        split at h
        · rename_i hb
          obtain ⟨hb1, hb2, hb3⟩ := hb
          simp only [Option.some.injEq] at h
          subst h
          have hsize : ∀ y ∈ xs, y.cells.length = te.size := fun y hy => by
            have := List.all_eq_true.1 hb3 y hy
            simpa using this
          have hlo : (vlo = none ∧ l = 0) ∨ ∃ k, vlo = some (.int k (l : Int)) := by
            rcases boundOr_sound hl hlr hln with ⟨_, h1, h2⟩ | h1
            · exact .inl ⟨h1, h2⟩
            · exact .inr h1
          have hhi : (vhi = none ∧ hh = xs.length) ∨ ∃ k, vhi = some (.int k (hh : Int)) := by
            rcases boundOr_sound hhh hhr hhn with ⟨_, h1, h2⟩ | h1
            · exact .inl ⟨h1, h2⟩
            · exact .inr h1
          cases hrep with
          | sliceNil =>
            simp only [List.length_nil] at hb2
            have hh0 : hh = 0 := by omega
            have hl0 : l = 0 := by omega
            subst hh0; subst hl0
            have hrb := run_bounds (E := E) (w := w) true 0 0 0 0 vlo vhi hlo hhi (by omega) (by omega)
            refine ⟨.slice none 0 0, ?_, .pv .sliceNil⟩
            simp [Instr.sliceAt, Instr.slice, run_underlying hd, hrb, run_sizeOf hti]
          | sliceAny A cap hm =>
            simp only [List.length_nil] at hb2
            have hh0 : hh = 0 := by omega
            have hl0 : l = 0 := by omega
            subst hh0; subst hl0
            have hrb := run_bounds (E := E) (w := w) true 0 cap 0 0 vlo vhi hlo hhi (by omega) (by omega)
            refine ⟨.slice (some A) 0 cap, ?_, .pv (.sliceAny A cap hm)⟩
            simp only [Instr.sliceAt, Instr.slice, bind, Sem.run_bind', run_underlying hd, Result.andThen_ok, hrb, run_sizeOf hti]
            by_cases hcl : cap = 0
            · simp [hcl]
            · simp [hcl, Addr.add]
          | slice b o len cap sz xs vs hlen hcc hm hsz h1 hcell hrp =>
            have hrb := run_bounds (E := E) (w := w) true len cap l hh vlo vhi hlo (by rw [← hlen]; exact hhi) hb1 (by omega)
            refine ⟨.slice (some (if cap = l then ⟨b, o, none⟩ else ⟨b, o + l * ti.size, none⟩)) (hh - l) (cap - l), ?_, ?_⟩
            · simp only [Instr.sliceAt, Instr.slice, bind, Sem.run_bind', run_underlying hd, Result.andThen_ok, hrb, run_sizeOf hti]
              by_cases hcl : cap = l
              · simp [hcl]
              · simp [hcl, Addr.add_lit]
            · have hszz : xs = [] ∨ sz = ti.size := by
                cases xs with
                | nil => exact .inl rfl
                | cons y ys => exact .inr (by rw [htis, ← hsize y (by simp), hsz y (by simp)])
              have hln' : ((xs.drop l).take (hh - l)).length = hh - l := by
                rw [List.length_take, List.length_drop]
                omega
              have hfl : flat ((xs.drop l).take (hh - l)) = ((flat xs).drop (l * sz)).take ((hh - l) * sz) := by
                rw [flat_take (sz := sz) (fun y hy => hsz y (List.mem_of_mem_drop hy)) _ (by rw [List.length_drop]; omega), flat_drop hsz _ (by omega)]
              have hsub : ∀ y ∈ (xs.drop l).take (hh - l), y ∈ xs := fun y hy => List.mem_of_mem_drop (List.mem_of_mem_take hy)
              have hflx := flat_length hsz
              by_cases hcl : cap = l
              · rw [if_pos hcl]
                have hnil : (xs.drop l).take (hh - l) = [] := List.eq_nil_of_length_eq_zero (by omega)
                rw [hnil, show hh - l = 0 from by omega]
                exact .pv (.slice b o 0 (cap - l) sz [] vs rfl (by omega) (by omega) (fun x hx => by cases hx) (fun x hx => by cases hx) (fun k hk => absurd hk (by simp [flat_nil])) (fun k c hc => by simp [flat_nil] at hc))
              · rw [if_neg hcl]
                refine .pv (.slice b _ _ _ sz _ (fun k => vs (l * sz + k)) hln' (by omega) (by omega) (fun y hy => hsz y (hsub y hy)) (fun c hc => h1 c ?_) (fun k hk => ?_) (fun k c hc => ?_))
                · obtain ⟨y, hy, hc'⟩ := List.mem_flatMap.1 hc
                  exact flat_mem (hsub y hy) hc'
                · rw [hfl, List.length_take, List.length_drop] at hk
                  rcases hszz with rfl | hszz
                  · simp [flat_nil] at hk
                  · have := hcell (l * sz + k) (by omega)
                    rw [← hszz, Nat.add_assoc]
                    exact this
                · rw [hfl, List.getElem?_take] at hc
                  split at hc
                  · rw [List.getElem?_drop] at hc
                    exact hrp _ c hc
                  · cases hc
        · cases h
      · cases h
    · cases h
  · cases h

end
end Go.Abs
