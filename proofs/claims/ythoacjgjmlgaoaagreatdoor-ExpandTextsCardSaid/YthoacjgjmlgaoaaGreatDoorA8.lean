/- The abstract machine, part 8: the quiet operations are sound: maps, conversions, lengths; all of them joined. -/
import Derived.Test.YthoacjgjmlgaoaaGreatDoorA7
import Derived.Laws.StructEq
namespace Go.Abs
open Go.RowKit

section
variable {E : Env} {γ : List Gh} {H : List AObj} {Φ : Nat → Nat → Prop} {w : World}

theorem zero_sound {t : TypeId} {ti : TI} (hT : TOne E.P t ti) {z : PV} (h : zeroPV ti = some z) : ∃ v, (zeroValue t).run E.P w = .ok v w ∧ ∀ (Φ : Nat → Nat → Prop) (w : World), Rep Φ w v z := by
  obtain ⟨i, d, hi, hs, _, hd, hk, hz⟩ := hT.info
  unfold zeroPV at h
  split at h
  · rename_i fs z' hfs hz'
    simp only [Option.some.injEq] at h
    subst h
    obtain ⟨zv, hzv, hzl, _, hzr, ha, _⟩ := hz z' hz'
    obtain ⟨cs, rfl⟩ := ha fs hfs
    refine ⟨_, by simp [zeroValue, typeInfo, hi, hzv], fun Φ w => .agg cs.toList z' hzl (fun c hc => ?_) (fun k v c hv hc => (hzr k v c hv hc).2.1 Φ w)⟩
    obtain ⟨k, hkk, hkc⟩ := List.getElem_of_mem hc
    have hkv : k < (Value.agg cs).cells.toList.length := by omega
    exact (hzr k _ c (List.getElem?_eq_getElem hkv) (by rw [List.getElem?_eq_getElem hkk, hkc])).1
  · cases h
  · rename_i z' hz' k1 k2
    simp only [Option.some.injEq] at h
    subst h
    obtain ⟨zv, hzv, hzl, _, hzr, _, ha⟩ := hz [z'] hz'
    refine ⟨zv, by simp [zeroValue, typeInfo, hi, hzv], fun Φ w => ?_⟩
    have hc := ha (fun fs e => k1 fs e)
    exact (hzr 0 zv z' (by rw [hc]; rfl) rfl).2.1 Φ w
  · cases h

theorem find_sound {d : TypeDesc} {kv : Value} {kp : PV} (hkey : (d = .string ∧ ∃ s, kp = .str s ∧ kv = .string ⟨⟨s⟩⟩) ∨ (∃ j n, d = .int j ∧ kp = .int j n ∧ kv = .int j n)) :
    ∀ (es : List (PV × PV)) (ents : List MapEntry) (i : Nat) (r : Option (Nat × PV)), ents.length = es.length →
      (∀ (k : Nat) x p, ents[k]? = some x → es[k]? = some p → Rep Φ w x.key p.1 ∧ Rep Φ w x.val p.2) → findIn kp es i = some r →
      (r = none ∧ Instr.findNow d kv ents i = some none) ∨ ∃ j p v x, r = some (j, p) ∧ Instr.findNow d kv ents i = some (some (j, v)) ∧ Rep Φ w v p ∧ i ≤ j ∧ j < i + es.length ∧ ents[j - i]? = some x ∧ x.val = v ∧
        (∀ e, es[j - i]? = some e → keyEq kp e.1 = some true)
  | [], ents, i, r, hl, _, h => by
    simp only [findIn, Option.some.injEq] at h
    cases ents with
    | nil => exact .inl ⟨h.symm, rfl⟩
    | cons a b => simp at hl
  | e :: es, [], i, r, hl, _, _ => by simp at hl
  | e :: es, x :: ents, i, r, hl, hrel, h => by
    obtain ⟨hk, hv⟩ := hrel 0 x e rfl rfl
    have hsame : ∀ b, keyEq kp e.1 = some b → Instr.sameNow d kv x.key = some b := by
      intro b hb
      rcases hkey with ⟨rfl, s, rfl, rfl⟩ | ⟨j, n, rfl, rfl, rfl⟩
      · cases he : e.1 with
        | str s' =>
          rw [he] at hk hb
          rw [rep_str hk]
          simp only [keyEq, Option.some.injEq] at hb
          subst hb
          simp only [Instr.sameNow, Option.some.injEq]
          rw [beq_toListBytes]
          simp
        | _ => rw [he] at hb; simp [keyEq] at hb
      · cases he : e.1 with
        | int j' n' =>
          rw [he] at hk hb
          rw [rep_int hk]
          simpa [keyEq, Instr.sameNow] using hb
        | _ => rw [he] at hb; simp [keyEq] at hb
    simp only [findIn] at h
    split at h
    · rename_i hb
      simp only [Option.some.injEq] at h
      subst h
      refine .inr ⟨i, e.2, x.val, x, rfl, by simp [Instr.findNow, hsame _ hb], hv, Nat.le_refl _, by simp, by simp, rfl, fun e' he' => ?_⟩
      simp only [Nat.sub_self, List.getElem?_cons_zero, Option.some.injEq] at he'
      rw [← he']
      exact hb
    · rename_i hb
      rcases find_sound hkey es ents (i + 1) r (by simpa using hl) (fun k x p hx hp => hrel (k + 1) x p (by simpa using hx) (by simpa using hp)) h with ⟨h1, h2⟩ | ⟨j, p, v, y, h1, h2, h3, h4, h5, h6, h7, h8⟩
      · exact .inl ⟨h1, by simp [Instr.findNow, hsame _ hb, h2]⟩
      · refine .inr ⟨j, p, v, y, h1, by simp [Instr.findNow, hsame _ hb, h2], h3, by omega, by simp only [List.length_cons]; omega, ?_, h7, fun e' he' => h8 e' ?_⟩
        · rw [show j - i = j - (i + 1) + 1 from by omega, List.getElem?_cons_succ]
          exact h6
        · rw [show j - i = j - (i + 1) + 1 from by omega, List.getElem?_cons_succ] at he'
          exact he'
    · cases h

theorem simpleKey_sound {kt : TypeId} {kp : PV} {kv : Value} (h : simpleKey E.T kt kp = true) (hr : Rep Φ w kv kp) :
    ∃ d, E.P.underlying kt = some d ∧ ((d = .string ∧ ∃ s, kp = .str s ∧ kv = .string ⟨⟨s⟩⟩) ∨ (∃ j n, d = .int j ∧ kp = .int j n ∧ kv = .int j n)) := by
  unfold simpleKey at h
  split at h
  · rename_i s hT
    obtain ⟨d, hd, hk⟩ := (E.hT _ _ hT).und
    exact ⟨d, hd, .inl ⟨tk_str hk, s, rfl, rep_str hr⟩⟩
  · rename_i j _ _ _ j' n hT
    obtain ⟨d, hd, hk⟩ := (E.hT _ _ hT).und
    have : j = j' := by simpa using h
    subst this
    exact ⟨d, hd, .inr ⟨j, n, tk_int hk, rfl, rep_int hr⟩⟩
  · cases h

theorem run_checkKey {kt : TypeId} {d : TypeDesc} {kv : Value} (hd : E.P.underlying kt = some d) (h : d = .string ∨ ∃ j, d = .int j) (b : Bool) : (Instr.checkKey b 10000 kt kv).run E.P w = .ok () w := by
  have key : ∀ n, (Instr.checkKey b (n + 1) kt kv).run E.P w = .ok () w := fun n => by
    rcases h with rfl | ⟨j, rfl⟩ <;> simp [Instr.checkKey, run_underlying hd]
  exact key 9999

theorem qlookup_sound (hI : OInv E γ H Φ w) {t : TypeId} {m k : Value} {x y r : AV} (hm : ARel γ H Φ w m x) (hk : ARel γ H Φ w k y) {ok : Bool} (h : qlookup E.T H t x y ok = some r) :
    ∃ u, (Instr.lookup t m k ok).run E.P w = .ok u w ∧ ARel γ H Φ w u r := by
  unfold qlookup at h
  split at h
  · rename_i kt et _ _ _ l kp hT
    split at h
    · rename_i es te hH hTe
      split at h
      · rename_i hsk
        obtain ⟨d, hd, hkk⟩ := (E.hT _ _ hT).und
        have hdd := tk_map hkk
        rw [hdd] at hd
        obtain ⟨dk, hdk, hkey⟩ := simpleKey_sound hsk (arel_pv hk)
        obtain ⟨g, hgl, b, ents, clock, hv, _, hb, hsz, hrel, _⟩ := hI.gh hH
        cases hm with
        | mref b' l hg =>
          have hbb : b' = b := by
            simp only [gv, hgl, Option.map_some, Option.some.injEq] at hg
            rw [hv] at hg
            injection hg with hg
            injection hg with hg
            exact hg.symm
          subst hbb
          have hget : (getObj b').run E.P w = .ok (.map ents clock) w := by simp [getObj, Sem.run, hb]
          have hck : (Instr.checkKey ents.isEmpty 10000 kt k).run E.P w = .ok () w := run_checkKey hdk (hkey.elim (fun h => .inl h.1) (fun ⟨j, _, h, _⟩ => .inr ⟨j, h⟩)) _
          have hfind := find_sound (Φ := Φ) (w := w) hkey es ents.toList 0
          split at h
          · rename_i j p hf
            simp only [Option.some.injEq] at h
            subst h
            rcases hfind _ (by simpa using hsz) (fun k x p hx hp => hrel k x p (by simpa using hx) hp) hf with ⟨h1, _⟩ | ⟨j', p', v, y', h1, h2, h3, _⟩
            · cases h1
            · simp only [Option.some.injEq, Prod.mk.injEq] at h1
              obtain ⟨rfl, rfl⟩ := h1
              have hfk : (Instr.findKey kt k ents.toList).run E.P w = .ok (some (j, v)) w := by simp [Instr.findKey, run_underlying hdk, h2]
              cases ok with
              | true =>
                refine ⟨.tuple #[v, .bool true], ?_, .tup [v, .bool true] _ rfl (fun k x c hx hc => ?_)⟩
                · simp [Instr.lookup, run_underlying hd, hget, hck, hfk]
                · match k, hx, hc with
                  | 0, hx, hc => simp at hx hc; subst hx hc; exact .pv h3
                  | 1, hx, hc => simp at hx hc; subst hx hc; exact .pv (.bool _)
                  | k + 2, hx, hc => simp at hx
              | false =>
                refine ⟨v, ?_, .pv h3⟩
                simp [Instr.lookup, run_underlying hd, hget, hck, hfk]
          · rename_i z hz hf
            simp only [Option.some.injEq] at h
            subst h
            obtain ⟨zv, hzr, hzz⟩ := zero_sound (w := w) (E.hT _ _ hTe) hf
            rcases hfind _ (by simpa using hsz) (fun k x p hx hp => hrel k x p (by simpa using hx) hp) hz with ⟨_, h2⟩ | ⟨j', p', v, y', h1, _⟩
            · have hfk : (Instr.findKey kt k ents.toList).run E.P w = .ok none w := by simp [Instr.findKey, run_underlying hdk, h2]
              cases ok with
              | true =>
                refine ⟨.tuple #[zv, .bool false], ?_, .tup [zv, .bool false] _ rfl (fun k x c hx hc => ?_)⟩
                · simp [Instr.lookup, run_underlying hd, hget, hck, hfk, hzr]
                · match k, hx, hc with
                  | 0, hx, hc => simp at hx hc; subst hx hc; exact .pv (hzz _ _)
                  | 1, hx, hc => simp at hx hc; subst hx hc; exact .pv (.bool _)
                  | k + 2, hx, hc => simp at hx
              | false =>
                refine ⟨zv, ?_, .pv (hzz _ _)⟩
                simp [Instr.lookup, run_underlying hd, hget, hck, hfk, hzr]
            · cases h1
          · cases h
      · cases h
    · cases h
  · cases h

end
end Go.Abs
