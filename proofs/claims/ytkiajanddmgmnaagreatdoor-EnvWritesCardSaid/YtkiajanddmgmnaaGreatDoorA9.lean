import Derived.Test.YtkiajanddmgmnaaGreatDoorA8
import Derived.Laws.IdiomStrings
/- The abstract machine, part 9: every quiet operation is sound. -/
namespace Go.Abs
open Go.RowKit

section
variable {E : Env} {γ : List Gh} {H : List AObj} {Φ : Nat → Nat → Prop} {w : World}

theorem qlen_sound (hI : OInv E γ H Φ w) {ty t : TypeId} {v : Value} {x r : AV} (hx : ARel γ H Φ w v x) (h : qlen E.T H ty x = some r) :
    ∃ u, (Builtin.len_ #[ty] t #[v]).run E.P w = .ok u w ∧ ARel γ H Φ w u r := by
  unfold qlen at h
  split at h
  · rename_i hT
    obtain ⟨d, hd, hk⟩ := (E.hT _ _ hT).und
    have hdd := tk_str hk
    rw [hdd] at hd
    split at h
    · simp only [Option.some.injEq] at h
      subst h
      have := rep_str (arel_pv hx)
      subst this
      exact ⟨_, by simp [Builtin.len_, run_underlying hd, goInt]; rfl, .pv (.int _ _)⟩
    · cases h
  · rename_i hT
    obtain ⟨d, hd, hk⟩ := (E.hT _ _ hT).und
    have hdd := tk_slice hk
    rw [hdd] at hd
    have run : ∀ A n c, (Builtin.len_ #[ty] t #[.slice A n c]).run E.P w = .ok (.int .i64 n) w := fun A n c => by
      simp [Builtin.len_, run_underlying hd, goInt]
    split at h
    · simp only [Option.some.injEq] at h
      subst h
      cases arel_pv hx with
      | sliceNil => exact ⟨_, run _ _ _, .pv (.int _ _)⟩
      | sliceAny A cap hm => exact ⟨_, run _ _ _, .pv (.int _ _)⟩
      | slice b o len cap sz xs vs hl hc hm hsz h1 hcell hrep => exact ⟨_, run _ _ _, by rw [hl]; exact .pv (.int _ _)⟩
    · simp only [Option.some.injEq] at h
      subst h
      cases hx with
      | vec A l n cap e sz len hrow hn hA hcur => exact ⟨_, run _ _ _, .pv (.int _ _)⟩
    · cases h
  · rename_i hT
    obtain ⟨d, hd, hk⟩ := (E.hT _ _ hT).und
    have hdd := tk_map hk
    rw [hdd] at hd
    split at h
    · rename_i l
      split at h
      · rename_i es hH
        simp only [Option.some.injEq] at h
        subst h
        obtain ⟨g, hgl, b, ents, clock, hv, _, hb, hsz, hrel, _⟩ := hI.gh hH
        cases hx with
        | mref b' l hg =>
          have hbb : b' = b := by
            simp only [gv, hgl, Option.map_some, Option.some.injEq] at hg
            rw [hv] at hg
            injection hg with hg
            injection hg with hg
            exact hg.symm
          subst hbb
          have hget : (getObj b').run E.P w = .ok (.map ents clock) w := by simp [getObj, Sem.run, hb]
          refine ⟨.int .i64 ents.size, by simp [Builtin.len_, run_underlying hd, hget, goInt], ?_⟩
          rw [hsz]
          exact .pv (.int _ _)
      · cases h
    · cases h
  · cases h

theorem qconv_sound {src dst : TypeId} {v : Value} {x r : AV} (hx : ARel γ H Φ w v x) (h : qconv E.T src dst x = some r) :
    ∃ u, (convert src dst v).run E.P w = .ok u w ∧ ARel γ H Φ w u r := by
  unfold qconv at h
  split at h
  · rename_i hs hd
    obtain ⟨d1, hd1, hk1⟩ := (E.hT _ _ hs).und
    obtain ⟨d2, hd2, hk2⟩ := (E.hT _ _ hd).und
    rw [tk_int hk1] at hd1
    rw [tk_int hk2] at hd2
    simp only [Option.some.injEq] at h
    subst h
    have := rep_int (arel_pv hx)
    subst this
    exact ⟨_, by simp [convert, run_underlying hd1, run_underlying hd2, Conv.intToInt], .pv (.int _ _)⟩
  · rename_i hs hd
    obtain ⟨d1, hd1, hk1⟩ := (E.hT _ _ hs).und
    obtain ⟨d2, hd2, hk2⟩ := (E.hT _ _ hd).und
    rw [tk_str hk1] at hd1
    rw [tk_str hk2] at hd2
    simp only [Option.some.injEq] at h
    subst h
    have := rep_str (arel_pv hx)
    subst this
    exact ⟨_, by simp [convert, run_underlying hd1, run_underlying hd2], .pv (.str _)⟩
  · cases h

theorem bytesPV_spec : ∀ {xs : List PV} {s : List UInt8}, bytesPV xs = some s → s.length = xs.length ∧ ∀ (k : Nat) c, s[k]? = some c → xs[k]? = some (.int .u8 (c.toNat : Int))
  | [], s, h => by
    simp only [bytesPV, Option.some.injEq] at h
    subst h
    exact ⟨rfl, fun k c hc => by simp at hc⟩
  | x :: xs, s, h => by
    unfold bytesPV at h
    split at h
    · rename_i e
      cases e
    · rename_i n r e
      injection e with e1 e2
      subst e1 e2
      split at h
      · rename_i hn
        obtain ⟨s', hs', rfl⟩ := Option.map_eq_some_iff.1 h
        obtain ⟨h1, h2⟩ := bytesPV_spec hs'
        refine ⟨by simp [h1], fun k c hc => ?_⟩
        cases k with
        | zero =>
          simp only [List.getElem?_cons_zero, Option.some.injEq] at hc ⊢
          subst hc
          have : (UInt8.ofNat n.toNat).toNat = n.toNat % 256 := rfl
          rw [this, Nat.mod_eq_of_lt (by omega), Int.toNat_of_nonneg hn.1]
        | succ k =>
          rw [List.getElem?_cons_succ] at hc ⊢
          exact h2 k c hc
      · cases h
    · cases h

theorem qbytes_sound (hI : OInv E γ H Φ w) {src dst : TypeId} {v : Value} {l n : Nat} {r : AV} (hx : ARel γ H Φ w v (.vec l n)) (h : qbytes E.T H src dst l n = some r) :
    ∃ u, (convert src dst v).run E.P w = .ok u w ∧ ARel γ H Φ w u r := by
  unfold qbytes at h
  split at h
  · rename_i e _ _ _ _ _ _ e' xs fz hs hd hH
    split at h
    · rename_i hc
      obtain ⟨hu8, hn⟩ := hc
      obtain ⟨s, hb, rfl⟩ := Option.map_eq_some_iff.1 h
      obtain ⟨hsl, hsg⟩ := bytesPV_spec hb
      obtain ⟨d1, hd1, hk1⟩ := (E.hT _ _ hs).und
      obtain ⟨d2, hd2, hk2⟩ := (E.hT _ _ hd).und
      rw [tk_slice hk1] at hd1
      rw [tk_str hk2] at hd2
      have he : E.P.underlying e = some (.int .u8) := by
        unfold isU8 at hu8
        split at hu8
        · rename_i hTe
          obtain ⟨d3, hd3, hk3⟩ := (E.hT _ _ hTe).und
          rw [tk_int hk3] at hd3
          exact hd3
        · cases hu8
      obtain ⟨g, hg, hO⟩ := hI.gh hH
      obtain ⟨cells, hown, hcl, hrep, hsz, h1, _, _, _⟩ := hO
      have hfl := flat_length hsz
      cases hx with
      | vec A _ _ cap e0 sz0 len0 hrow hn0 hA hcur =>
        have hre := rowAt_row hH
        rw [hrow] at hre
        injection hre with hre
        injection hre with _ hre
        injection hre with _ hlen
        have hgv := hcur (by omega)
        simp only [gv, hg, Option.map_some, Option.some.injEq] at hgv
        rcases hown.2 with ⟨hnil, hz⟩ | ⟨b, cap', cur, hv', _⟩
        · have hs0 : s = [] := List.eq_nil_of_length_eq_zero (by omega)
          rw [hgv] at hnil
          injection hnil with e1 e2 e3
          subst e1 e2 e3
          refine ⟨.string ⟨#[]⟩, ?_, by rw [hs0]; exact .pv (.str [])⟩
          rw [run_convert_bytes_string w src dst e none 0 0 hd1 he hd2]
          simp [Conv.bytesToString]
          rfl
        · rw [hgv] at hv'
          injection hv' with e1 e2 e3
          subst e1 e3
          refine ⟨.string ⟨s.toArray⟩, ?_, .pv (.str s)⟩
          rw [← hn, ← hsl]
          refine run_convert_bytes_back w src dst e ⟨b, 0, none⟩ cap s hd1 he hd2 fun j hj => ?_
          have hkc : j < cells.length := by omega
          have hc := hown.cells (g := b) (by rw [hgv]; rfl) j cells[j] (List.getElem?_eq_getElem hkc)
          rw [hc]
          have hxj := hsg j s[j] (List.getElem?_eq_getElem hj)
          have hfa := flat_at hsz j 0 _ hxj (by omega)
          rw [Nat.mul_one, Nat.add_zero] at hfa
          have hr := hrep j cells[j] (.int .u8 (s[j].toNat : Int)) (List.getElem?_eq_getElem hkc) (by rw [hfa]; rfl)
          rw [rep_int hr]
    · cases h
  · cases h

theorem qconv2_sound (hI : OInv E γ H Φ w) {src dst : TypeId} {v : Value} {x r : AV} (hx : ARel γ H Φ w v x) (h : qconv2 E.T H src dst x = some r) :
    ∃ u, (convert src dst v).run E.P w = .ok u w ∧ ARel γ H Φ w u r := by
  cases x with
  | vec l n => exact qbytes_sound hI hx h
  | _ => exact qconv_sound hx h

theorem run_vval {s : Sem Value} {u : Value} {w' : World} (h : s.run E.P w = .ok u w') : (do pure (Next.value (← s)) : Sem Next).run E.P w = .ok (.value u) w' := by
  simp only [bind, Sem.run_bind', h, Result.andThen_ok]
  rfl

theorem q_sound (hI : OInv E γ H Φ w) {a : Act} {t : Nat → AV} (hs : Slots γ H Φ w a t) {o : Oper} {r : AV} (h : qval E.T t H o.op = some r) :
    ∃ u, (execOp a.eval o).run E.P w = .ok (.value u) w ∧ ARel γ H Φ w u r := by
  unfold qval at h
  unfold execOp
  split at h
  · rename_i x ho
    simp only [Option.some.injEq] at h
    subst h
    exact ⟨a.eval x, by simp only [ho]; rfl, ev_rel hs x⟩
  · rename_i x ho
    simp only [Option.some.injEq] at h
    subst h
    exact ⟨a.eval x, by simp only [ho]; rfl, ev_rel hs x⟩
  · rename_i c x y ho
    split at h
    · rename_i b hc
      simp only [Option.some.injEq] at h
      subst h
      have hcr := ev_rel hs c
      rw [hc] at hcr
      have hcv := rep_bool (arel_pv hcr)
      refine ⟨if b then a.eval x else a.eval y, by simp only [ho, hcv]; rfl, ?_⟩
      cases b
      · exact ev_rel hs y
      · exact ev_rel hs x
    · cases h
  · rename_i op ty x y yt ho
    obtain ⟨u, hu, hr⟩ := qbin_sound op ty x y (ev_rel hs x) (ev_rel hs y) h
    exact ⟨u, by simp only [ho]; exact run_vval hu, hr⟩
  · rename_i op ty x ho
    obtain ⟨u, hu, hr⟩ := qun_sound (E := E) op (ev_rel hs x) h
    exact ⟨u, by simp only [ho]; exact run_vval hu, hr⟩
  · rename_i ty x ho
    obtain ⟨u, hu, hr⟩ := load_sound hI (ev_rel hs x) h
    exact ⟨u, by simp only [ho]; exact run_vval hu, hr⟩
  · rename_i ty x f ho
    obtain ⟨u, hu, hr⟩ := qfieldAddr_sound (ev_rel hs x) h
    exact ⟨u, by simp only [ho]; exact run_vval hu, hr⟩
  · rename_i ty x i ho
    obtain ⟨u, hu, hr⟩ := qindexAddr_sound (nrm_rel (ev_rel hs x)) (ev_rel hs i) h
    exact ⟨u, by simp only [ho]; exact run_vval hu, hr⟩
  · rename_i ty x i ho
    obtain ⟨u, hu, hr⟩ := qindex_sound (ev_rel hs x) (ev_rel hs i) h
    exact ⟨u, by simp only [ho]; exact run_vval hu, hr⟩
  · rename_i ty x lo hi ho
    have side : ∀ (o : Option Operand) (b : AV) (c : Value), o.map (ev t) = some b → o.map a.eval = some c → ARel γ H Φ w c b := by
      intro o b c h1 h2
      cases o with
      | none => cases h1
      | some z =>
        simp only [Option.map_some, Option.some.injEq] at h1 h2
        rw [← h1, ← h2]
        exact ev_rel hs z
    obtain ⟨u, hu, hr⟩ := qslice_sound hI (vlo := lo.map a.eval) (vhi := hi.map a.eval) (ev_rel hs x) (side lo) (by cases lo <;> simp) (side hi) (by cases hi <;> simp) h
    exact ⟨u, by simp only [ho]; exact run_vval hu, hr⟩
  · rename_i x i ho
    have hx := ev_rel hs x
    unfold qextract at h
    split at h
    · rename_i vs hv
      rw [hv] at hx
      generalize hax : a.eval x = y at hx
      cases hx with
      | tup ws vs hl hrel =>
        have hi : i < ws.length := by
          have := (List.getElem?_eq_some_iff.1 h).1
          omega
        refine ⟨ws[i], ?_, hrel i ws[i] r (List.getElem?_eq_getElem hi) h⟩
        simp only [ho, hax]
        refine run_vval ?_
        simp [Instr.extract, hi]
    · cases h
  · rename_i ty parts ho
    obtain ⟨u, hu, hr⟩ := qbuild_sound hI (vparts := parts.map fun (p : Nat × Operand) => (p.1, a.eval p.2)) (by simp) (fun j p q hp hq => by
      rw [List.getElem?_map] at hp
      rw [Array.getElem?_map] at hq
      obtain ⟨z, hz, rfl⟩ := Option.map_eq_some_iff.1 hp
      rw [Array.getElem?_toList] at hz
      rw [hz] at hq
      simp only [Option.map_some, Option.some.injEq] at hq
      subst hq
      exact ⟨rfl, ev_rel hs z.2⟩) h
    exact ⟨u, by simp only [ho]; exact run_vval hu, hr⟩
  · rename_i x ho
    have hx := ev_rel hs x
    refine ⟨a.eval x, ?_, ?_⟩
    · simp only [ho]
      generalize a.eval x = y at hx ⊢
      generalize ev t x = z at hx h
      unfold qnil at h
      cases hx <;> first | rfl | simp at h
    · generalize ev t x = z at hx h
      unfold qnil at h
      split at h <;> first | (simp only [Option.some.injEq] at h; subst h; exact hx) | cases h
  · rename_i ty m k ok ho
    obtain ⟨u, hu, hr⟩ := qlookup_sound hI (ev_rel hs m) (ev_rel hs k) h
    exact ⟨u, by simp only [ho]; exact run_vval hu, hr⟩
  · rename_i src dst x ho
    obtain ⟨u, hu, hr⟩ := qconv2_sound hI (ev_rel hs x) h
    exact ⟨u, by simp only [ho]; exact run_vval hu, hr⟩
  · rename_i args ats ho
    split at h
    · rename_i x ty hx hty
      have ha : args = #[x] := by rw [← Array.toArray_toList (xs := args), hx]
      have hat : ats = #[ty] := by rw [← Array.toArray_toList (xs := ats), hty]
      subst ha; subst hat
      obtain ⟨u, hu, hr⟩ := qlen_sound hI (t := o.type) (nrm_rel (ev_rel hs x)) h
      refine ⟨u, ?_, hr⟩
      simp only [ho, resolve, bind, Sem.run_bind']
      simp only [pure, Sem.run_pure', Result.andThen_ok, invoke, builtin]
      exact run_vval (by simpa using hu)
    · cases h
  · rename_i f first caps ho
    split at h
    · rename_i h0
      obtain ⟨ls, hls, rfl⟩ := Option.map_eq_some_iff.1 h
      have hf : first = #[] := Array.eq_empty_of_size_eq_zero h0
      subst hf
      have key : ∀ (xs : List Operand) (ls : List Nat), refsOf (xs.map (ev t)) = some ls → (xs.map a.eval).length = ls.length ∧ ∀ (k : Nat) v l, (xs.map a.eval)[k]? = some v → ls[k]? = some l → ∃ b, v = .pointer (some ⟨b, 0, none⟩) ∧ gv γ l = some v := by
        intro xs
        induction xs with
        | nil =>
          intro ls h
          simp only [List.map_nil, refsOf, Option.some.injEq] at h
          subst h
          exact ⟨rfl, fun k v l hv => by simp at hv⟩
        | cons x xs ih =>
          intro ls h
          have hx := ev_rel hs x
          rw [List.map_cons] at h
          generalize ev t x = y at hx h
          unfold refsOf at h
          split at h
          · rename_i heq
            cases heq
          · rename_i l r heq
            injection heq with e1 e2
            subst e1 e2
            obtain ⟨ls', hls', rfl⟩ := Option.map_eq_some_iff.1 h
            obtain ⟨i1, i2⟩ := ih ls' hls'
            refine ⟨by simp [i1], fun k v l' hv hl' => ?_⟩
            cases k with
            | zero =>
              simp only [List.map_cons, List.getElem?_cons_zero, Option.some.injEq] at hv hl'
              subst hv hl'
              generalize a.eval x = u at hx
              cases hx with
              | ref b l off hg => exact ⟨b, rfl, hg⟩
            | succ k =>
              rw [List.map_cons, List.getElem?_cons_succ] at hv
              rw [List.getElem?_cons_succ] at hl'
              exact i2 k v l' hv hl'
          · cases h
      obtain ⟨k1, k2⟩ := key caps.toList ls hls
      refine ⟨.func (.func f) #[] (caps.map a.eval), by simp only [ho]; exact run_vval (by simp [Instr.makeFunc]), ?_⟩
      have : caps.map a.eval = ⟨caps.toList.map a.eval⟩ := by rw [← Array.toList_map]
      rw [this]
      exact .fn f _ ls k1 k2
    · cases h
  · cases h

end
end Go.Abs
