import Derived.Test.YtkiajanddmgmnaaGreatDoorA14
import Derived.Laws.MakeOwn
/- The abstract machine, part 15: maps and made slices. -/
namespace Go.Abs
open Go.RowKit

def emakeSlice (E : Env) (H : List AObj) (ty : TypeId) (n c : AV) : Option (AV × List AObj) :=
  match E.T ty, n, c with
  | some ⟨.slice e, _, _, _⟩, .pv (.int _ n), .pv (.int _ c) => match E.T e with
    | some te => match zeroPV te with
      | some z => if 0 ≤ n ∧ n ≤ c ∧ c.toNat * te.bytes ≤ 140737488355328 ∧ te.bytes ≠ 0 ∧ te.size ≠ 0 ∧ z.cells.length = te.size then
          some (.vec H.length n.toNat, H ++ [.row e te.size (List.replicate n.toNat z) false]) else none
      | none => none
    | none => none
  | _, _, _ => none

section
variable {E : Env} {γ : List Gh} {H : List AObj} {Φ : Nat → Nat → Prop} {w : World}

theorem emakeMap_sound (hI : OInv E γ H Φ w) (ty : TypeId) {r : AV} {H' : List AObj} (h : emakeMap H ty = some (r, H')) :
    ∃ u w', (Instr.makeMap ty none).run E.P w = .ok u w' ∧ Steps1 E γ H Φ w r H' u w' := by
  simp only [emakeMap, Option.some.injEq, Prod.mk.injEq] at h
  obtain ⟨rfl, rfl⟩ := h
  have hnew : (w.alloc (.map #[] 0)).heap[w.heap.size]? = some (.map #[] 0) := heap_alloc_new w _
  refine ⟨.map (some w.heap.size), w.alloc (.map #[] 0), by simp [Instr.makeMap], _, Φ, hI.pushObj (fun b hb => alloc_heap_lt _ b hb) (by simp) rfl rfl rfl (fun _ _ h => h) (fun _ _ h _ => h) (fun b k h => Nat.lt_of_lt_of_le (hI.phi b k h) (by simp)) ⟨.map (some w.heap.size), [w.heap.size]⟩ (.map [])
    (fun b hb => by simp at hb; subst hb; exact ⟨Nat.le_refl _, by simp⟩) (fun hE => ⟨w.heap.size, #[], 0, rfl, rfl, hnew, rfl, fun k x p hx => by simp at hx, fun k hk => ?_⟩), .mref _ _ ?_⟩
  · have := hI.phi _ k hk
    omega
  · unfold gv
    rw [← hI.len]
    simp

theorem run_setObj {b : Nat} {ents ents' : Array MapEntry} {c c' : Nat} (hb : w.heap[b]? = some (.map ents c)) : (setObj b (.map ents' c')).run E.P w = .ok () { w with heap := w.heap.setIfInBounds b (.map ents' c') } := by
  simp [setObj, Sem.run, hb]

theorem keyEq_sameBits {kp p : PV} {kv v : Value} (hk : Rep Φ w kv kp) (hp : Rep Φ w v p) (h : keyEq kp p = some true) : Instr.sameBits 10000 v kv = true := by
  cases kp <;> cases p <;> simp [keyEq] at h
  · have h1 := rep_bool hk
    have h2 := rep_bool hp
    subst h1 h2
    simp [Instr.sameBits, h]
  · have h1 := rep_int hk
    have h2 := rep_int hp
    subst h1 h2
    simp [Instr.sameBits, h]
  · have h1 := rep_str hk
    have h2 := rep_str hp
    subst h1 h2
    subst h
    simp [Instr.sameBits, beq_toListBytes]

theorem emapUpdate_sound (hI : OInv E γ H Φ w) {ty : TypeId} {m k v : Value} {x y z : AV} {H' : List AObj} (hm : ARel γ H Φ w m x) (hk : ARel γ H Φ w k y) (hv : ARel γ H Φ w v z) (h : emapUpdate E H ty x y z = some H') :
    ∃ w', (Instr.mapUpdate ty m k v).run E.P w = .ok () w' ∧ ∃ γ' Φ', Ok E γ H Φ w γ' H' Φ' w' := by
  unfold emapUpdate at h
  split at h
  · rename_i kt _ _ _ _ l kp vp hT hpv
    split at h
    · rename_i es hH
      split at h
      · rename_i hsk
        obtain ⟨d, hd, hkk⟩ := (E.hT _ _ hT).und
        rw [tk_map hkk] at hd
        have hkr := arel_pv hk
        have hvr := toPV_rep hI hv hpv
        obtain ⟨dk, hdk, hkey⟩ := simpleKey_sound hsk hkr
        obtain ⟨g, hgl, b, ents, clock, hgv, hgo, hb, hsz, hrel, hn⟩ := hI.gh hH
        have hmv : m = .map (some b) := by
          cases hm with
          | mref b' l hg =>
            simp only [gv, hgl, Option.map_some, Option.some.injEq] at hg
            rw [hgv] at hg
            exact hg.symm
        subst hmv
        have hget : (getObj b).run E.P w = .ok (.map ents clock) w := by simp [getObj, Sem.run, hb]
        have hck : (Instr.checkKey false 10000 kt k).run E.P w = .ok () w := run_checkKey hdk (hkey.elim (fun h => .inl h.1) (fun ⟨j, _, h, _⟩ => .inr ⟨j, h⟩)) _
        have hfind := find_sound (Φ := Φ) (w := w) hkey es ents.toList 0
        have hlb : b < w.heap.size := (Array.getElem?_eq_some_iff.1 hb).1
        have hlH : l < H.length := (List.getElem?_eq_some_iff.1 hH).1
        have step : ∀ (es' : List (PV × PV)) (ents' : Array MapEntry) (c' : Nat), ents'.size = es'.length → (∀ (k : Nat) x p, ents'[k]? = some x → es'[k]? = some p → Rep Φ w x.key p.1 ∧ Rep Φ w x.val p.2) →
            Ok E γ H Φ w (γ.set l g) (H.set l (.map es')) Φ { w with heap := w.heap.setIfInBounds b (.map ents' c') } := by
          intro es' ents' c' hsz' hrel'
          have hnew : ({ w with heap := w.heap.setIfInBounds b (.map ents' c') } : World).heap[b]? = some (.map ents' c') := by
            show (w.heap.setIfInBounds b _)[b]? = _
            rw [Array.getElem?_setIfInBounds, if_pos rfl, if_pos hlb]
          have hother : ∀ c, c ≠ b → ({ w with heap := w.heap.setIfInBounds b (.map ents' c') } : World).heap[c]? = w.heap[c]? := fun c hc => by
            show (w.heap.setIfInBounds b _)[c]? = _
            rw [Array.getElem?_setIfInBounds, if_neg (Ne.symm hc)]
          exact hI.setObj (g' := g) hH hgl (fun c hc hn' => hother c (fun e => hn' (by rw [hgo, e]; simp))) (by simp) rfl rfl rfl (fun _ _ h => h) (fun _ _ h _ _ => h) (fun c k h => by simpa using hI.phi c k h)
            (fun c k hΦ hc => by rw [hgo] at hc; simp at hc; subst hc; exact absurd hΦ (hn k)) (fun c hc => ⟨.inl hc, by simpa using (hI.own l g hgl c hc).2⟩) (.inl rfl) (fun _ _ _ h => by cases h)
            (fun hE => ⟨b, ents', c', hgv, hgo, hnew, hsz', fun k x p hx hp => ⟨(hrel' k x p hx hp).1.mono hE.phi hE.cell, (hrel' k x p hx hp).2.mono hE.phi hE.cell⟩, hn⟩)
        split at h
        · rename_i j q hf
          simp only [Option.some.injEq] at h
          subst h
          rcases hfind _ (by simpa using hsz) (fun k x p hx hp => hrel k x p (by simpa using hx) hp) hf with ⟨h1, _⟩ | ⟨j', p', u, e0, h1, h2, h3, h4, h5, h6, h7, h8⟩
          · cases h1
          · simp only [Option.some.injEq, Prod.mk.injEq] at h1
            obtain ⟨rfl, rfl⟩ := h1
            simp only [Nat.sub_zero, Nat.zero_add] at h5 h6 h8
            have hfk : (Instr.findKey kt k ents.toList).run E.P w = .ok (some (j, u)) w := by simp [Instr.findKey, run_underlying hdk, h2]
            have hej : ents[j]? = some e0 := by simpa using h6
            obtain ⟨ep, hep⟩ : ∃ ep, es[j]? = some ep := ⟨_, List.getElem?_eq_getElem h5⟩
            have hsb := keyEq_sameBits hkr (hrel j e0 ep hej hep).1 (h8 ep hep)
            have hkts : (Instr.keyThatStays e0.key k).run E.P w = .ok k w := by simp [Instr.keyThatStays, hsb]
            refine ⟨_, ?_, _, _, step (es.set j (kp, vp)) (ents.modify j fun e => { e with key := k, val := v }) clock (by simpa using hsz) (fun i x p hx hp => ?_)⟩
            · unfold Instr.mapUpdate
              simp only [bind, Sem.run_bind', run_underlying hd, Result.andThen_ok, hget, hck, hfk, hej, Option.map_some, Option.getD_some, hkts]
              rw [run_setObj hb]
            · rw [Array.getElem?_modify] at hx
              by_cases hij : j = i
              · subst hij
                rw [if_pos rfl, hej] at hx
                simp only [Option.map_some, Option.some.injEq] at hx
                rw [List.getElem?_set_self h5] at hp
                simp only [Option.some.injEq] at hp
                subst hx hp
                exact ⟨hkr, hvr⟩
              · rw [if_neg hij] at hx
                rw [List.getElem?_set_ne hij] at hp
                exact hrel i x p hx hp
        · rename_i hf
          simp only [Option.some.injEq] at h
          subst h
          rcases hfind _ (by simpa using hsz) (fun k x p hx hp => hrel k x p (by simpa using hx) hp) hf with ⟨_, h2⟩ | ⟨j', p', u, e0, h1, _⟩
          · have hfk : (Instr.findKey kt k ents.toList).run E.P w = .ok none w := by simp [Instr.findKey, run_underlying hdk, h2]
            refine ⟨_, ?_, _, _, step (es ++ [(kp, vp)]) (ents.push { key := k, val := v, born := clock }) (clock + 1) (by simp [hsz]) (fun i x p hx hp => ?_)⟩
            · unfold Instr.mapUpdate
              simp only [bind, Sem.run_bind', run_underlying hd, Result.andThen_ok, hget, hck, hfk]
              rw [run_setObj hb]
            · by_cases hi : i < es.length
              · rw [List.getElem?_append_left hi] at hp
                rw [Array.getElem?_push, if_neg (by omega)] at hx
                exact hrel i x p hx hp
              · rw [List.getElem?_append_right (by omega)] at hp
                have hi0 : i - es.length = 0 := by
                  have := (List.getElem?_eq_some_iff.1 hp).1
                  simp at this
                  omega
                rw [hi0] at hp
                rw [Array.getElem?_push, if_pos (by omega)] at hx
                simp only [List.getElem?_cons_zero, Option.some.injEq] at hx hp
                subst hx hp
                exact ⟨hkr, hvr⟩
          · cases h1
        · cases h
      · cases h
    · cases h
  · cases h

theorem made_get (z : Array Value) (n k : Nat) (hz : z.size ≠ 0) (hk : k < n * z.size) : (madeCells z (n * z.size))[k]? = z[k % z.size]? := by
  unfold madeCells
  have : k % z.size < z.size := Nat.mod_lt _ (by omega)
  simp [hk, this]

theorem emakeSlice_sound (hI : OInv E γ H Φ w) {ty : TypeId} {a b : Value} {x y r : AV} {H' : List AObj} (ha : ARel γ H Φ w a x) (hb : ARel γ H Φ w b y) (h : emakeSlice E H ty x y = some (r, H')) :
    ∃ u w', (Instr.makeSlice ty a b).run E.P w = .ok u w' ∧ Steps1 E γ H Φ w r H' u w' := by
  unfold emakeSlice at h
  split at h
  · rename_i e _ _ _ kn n kc c hT
    split at h
    · rename_i te hTe
      split at h
      · rename_i z hzp
        split at h
        · rename_i hc
          obtain ⟨h0, hnc, hby, hb0, hs0, hzl⟩ := hc
          simp only [Option.some.injEq, Prod.mk.injEq] at h
          obtain ⟨rfl, rfl⟩ := h
          have hav := rep_int (arel_pv ha)
          have hbv := rep_int (arel_pv hb)
          subst hav; subst hbv
          obtain ⟨d, hd, hk⟩ := (E.hT _ _ hT).und
          rw [tk_slice hk] at hd
          obtain ⟨i, d', hi, his, hib, hd', hk', hz⟩ := (E.hT _ _ hTe).info
          obtain ⟨zv, hzr, hzrep⟩ := zero_sound (w := w) (E.hT _ _ hTe) hzp
          have hzi : i.zero = some zv := by
            cases hzz : i.zero with
            | none => simp [zeroValue, typeInfo, hi, hzz] at hzr
            | some z' => simp [zeroValue, typeInfo, hi, hzz] at hzr; rw [hzr]
          obtain ⟨c1, c2, c3⟩ := rep_cells (hzrep Φ w)
          have hzs : zv.cells.size = i.size := by rw [his, ← hzl, ← c1]; simp
          have hcm : c.toNat ≤ 140737488355328 := by
            have : c.toNat ≤ c.toNat * te.bytes := Nat.le_mul_of_pos_right _ (by omega)
            omega
          have hrun := run_make (P := E.P) w ty e i zv hd hi hzi kn kc n c h0 hnc (by
            have hh : ((c.toNat * te.bytes : Nat) : Int) ≤ 140737488355328 := by omega
            rw [Int.natCast_mul, Int.toNat_of_nonneg (by omega)] at hh
            rw [hib, Int.mul_comm]
            omega) (by omega)
          have hnl : (List.replicate n.toNat z).length = n.toNat := by simp
          have hsz : ∀ q ∈ List.replicate n.toNat z, q.cells.length = te.size := fun q hq => by rw [(List.mem_replicate.1 hq).2]; exact hzl
          have hmsz : (madeCells zv.cells (c.toNat * i.size)).size = c.toNat * i.size := size_madeCells _ _
          have hmul : n.toNat * i.size ≤ c.toNat * i.size := Nat.mul_le_mul_right _ (by omega)
          refine ⟨_, _, hrun, ?_⟩
          have hown : (w.alloc (.cells (madeCells zv.cells (c.toNat * i.size)) e)).ownsRow 0 e i.size (.slice (some ⟨w.heap.size, 0, none⟩) n.toNat c.toNat) (List.replicate n.toNat z).length ((madeCells zv.cells (c.toNat * i.size)).toList.take (n.toNat * i.size)) := by
            refine ⟨?_, .inr ⟨w.heap.size, c.toNat, _, by rw [hnl], Nat.zero_le _, heap_alloc_new w _, by rw [hnl]; omega, by unfold maxLen; omega, hmsz, by rw [hnl]⟩⟩
            rw [List.length_take, Array.length_toList, hmsz, hnl]
            omega
          have hfl := flat_length hsz
          rw [hnl] at hfl
          have := pushRow (v := .slice none 0 0) hI hown ⟨rfl, rfl, rfl, by simp, .inl ⟨rfl, by simp, fun b hb => heap_alloc_old w _ b hb⟩⟩ rfl ⟨?_, fun q hq => ?_, fun k u q hu hq => ?_⟩ (by rw [his]; exact hsz) (by omega) false
          · rw [← his]
            rw [hnl] at this
            exact this
          · rw [List.length_take, Array.length_toList, hmsz, hfl, ← his]
            omega
          · obtain ⟨p, hp, hqp⟩ := List.mem_flatMap.1 hq
            rw [(List.mem_replicate.1 hp).2] at hqp
            exact c2 q hqp
          · have hk : k < n.toNat * te.size := by
              have := (List.getElem?_eq_some_iff.1 hq).1
              omega
            have hpos : 0 < te.size := by omega
            have hq1 : k / te.size < n.toNat := Nat.div_lt_of_lt_mul (by rw [Nat.mul_comm]; exact hk)
            have hmod : k % te.size < te.size := Nat.mod_lt _ hpos
            have hkd : k / te.size * te.size + k % te.size = k := by rw [Nat.mul_comm]; exact Nat.div_add_mod k te.size
            have hf := flat_at hsz (k / te.size) (k % te.size) z (by rw [List.getElem?_replicate, if_pos hq1]) hmod
            rw [hkd, hq] at hf
            rw [List.getElem?_take, if_pos (by rw [his]; exact hk), Array.getElem?_toList] at hu
            have hms : zv.cells.size = te.size := by rw [hzs, his]
            rw [his, ← hms, made_get _ _ _ (by omega) (by rw [hms]; exact Nat.lt_of_lt_of_le hk (Nat.mul_le_mul_right _ (by omega))), hms] at hu
            exact c3 (k % te.size) u q (by rw [Array.getElem?_toList]; exact hu) hf.symm
        · cases h
      · cases h
    · cases h
  · cases h

end
end Go.Abs
