import Derived.Test.YtkiajanddmgmnaaGreatDoorA23
/- The abstract machine, part 42: regions that draw their order, by what each operation gives. -/
namespace Go.Abs
open Go.RowKit

/-! Short names for a slot's value. -/
abbrev ai (n : Int) : AV := .pv (.int .i64 n)
abbrev as_ (s : List UInt8) : AV := .pv (.str s)
abbrev ab (b : Bool) : AV := .pv (.bool b)

def dstOf (ops : Array Oper) (j : Nat) : Option Nat := (ops[j]?).bind (·.dst)

/-- Whether operation j may come when just the first p of the operations with effects are done. -/
def mayAt (A : List (List Nat)) (eff : List Nat) (j p : Nat) : Bool :=
  ((eff.take p).all fun e => e != j && !(A.getD e []).contains j) && ((eff.drop p).all fun e => !(A.getD j []).contains e)

def chained (A : List (List Nat)) : List Nat → Bool
  | [] => true
  | e :: r => (r.all fun x => (A.getD x []).contains e) && chained A r

def planOK (ops : Array Oper) (n : Nat) (eff : List Nat) (F : List (Nat × Nat)) : Bool :=
  let A := ancs ops ops.size
  let R := List.range ops.size
  (R.all fun j => ((direct ops j).all fun i => decide (i < j)) && (match dstOf ops j with
    | some d => decide (d < n) && R.all fun k => match ops[k]? with
      | some o => !(o.looksAt ops).contains d || (A.getD k []).contains j
      | none => true
    | none => true) && ((List.range j).all fun i => dstOf ops i == none || dstOf ops i != dstOf ops j) &&
    ((List.range (eff.length + 1)).all fun p => !mayAt A eff j p || F.contains (j, p))) &&
  chained A eff && eff.all fun e => decide (e < ops.size)

/-- The slots that the operations fill. -/
def pairs (ops : Array Oper) (val : List AV) : List (Nat × AV) := (List.range ops.size).filterMap fun j => (dstOf ops j).map fun d => (d, val.getD j .any)

def Facts (E : Env) (O : Orc) (ops : Array Oper) (t : Nat → AV) (n : Nat) (val : List AV) (hs : List (List AObj)) (eff : List Nat) : List (Nat × Nat) → Prop
  | [] => True
  | (j, p) :: r => (∀ o, ops[j]? = some o → adoes E O ops ⟨t, n, hs.getD p []⟩ o = some (val.getD j .any, hs.getD (if eff.contains j then p + 1 else p) [])) ∧ Facts E O ops t n val hs eff r

section
variable {E : Env} {O : Orc} {γ₀ : List Gh} {H₀ : List AObj} {Φ₀ : Nat → Nat → Prop} {w₀ : World}

theorem Facts.at {ops : Array Oper} {t : Nat → AV} {n : Nat} {val : List AV} {hs : List (List AObj)} {eff : List Nat} : ∀ {F : List (Nat × Nat)}, Facts E O ops t n val hs eff F → ∀ {j p : Nat}, (j, p) ∈ F → ∀ {o : Oper}, ops[j]? = some o →
    adoes E O ops ⟨t, n, hs.getD p []⟩ o = some (val.getD j .any, hs.getD (if eff.contains j then p + 1 else p) [])
  | [], _, _, _, h => by cases h
  | (j', p') :: r, ⟨h1, h2⟩, j, p, h => by
    rcases List.mem_cons.1 h with h | h
    · injection h with e1 e2
      subst e1 e2
      exact fun ho => h1 _ ho
    · exact fun ho => h2.at h ho

theorem adoes_congr2 {ops : Array Oper} {o : Oper} {t t' : Nat → AV} {n : Nat} {X : List AObj} (h : ∀ d ∈ o.looksAt ops, t d = t' d) : adoes E O ops ⟨t, n, X⟩ o = adoes E O ops ⟨t', n, X⟩ o := by
  have h1 : aop E O ⟨t, n, X⟩ o = aop E O ⟨t', n, X⟩ o := aop_congr o (fun x hx => by
    cases x with
    | tmp d => exact h d (List.mem_append_left _ (List.mem_filterMap.2 ⟨.tmp d, by simpa using hx, rfl⟩))
    | _ => rfl)
  have h2 : gdec ops t o = gdec ops t' o := by
    unfold gdec
    cases hg : o.guard with
    | none => rfl
    | some p =>
      obtain ⟨j, want⟩ := p
      simp only
      cases hd : (ops[j]?).bind (·.dst) with
      | none => rfl
      | some g =>
        simp only
        rw [h g (by simp [Oper.looksAt, hg, hd])]
  unfold adoes
  simp only [h1, h2]

theorem chained_at {A : List (List Nat)} : ∀ {eff : List Nat}, chained A eff = true → ∀ {p : Nat} {e x : Nat}, eff[p]? = some e → x ∈ eff.drop (p + 1) → e ∈ A.getD x []
  | [], _, p, e, x, h, _ => by simp at h
  | e' :: r, hc, p, e, x, h, hx => by
    simp only [chained, Bool.and_eq_true] at hc
    cases p with
    | zero =>
      simp only [List.getElem?_cons_zero, Option.some.injEq] at h
      subst h
      have := List.all_eq_true.1 hc.1 x (by simpa using hx)
      simpa using this
    | succ p => exact chained_at hc.2 (by simpa using h) (by simpa using hx)

theorem sl_append (L : List (Nat × AV)) : ∀ (P : List (Nat × AV)) (i : Nat), (∀ v, (i, v) ∉ P) → sl (P ++ L) i = sl L i
  | [], i, _ => rfl
  | (j, v) :: P, i, h => by
    show (if i = j then v else sl (P ++ L) i) = _
    rw [if_neg (fun e => h v (by rw [e]; simp)), sl_append L P i fun u hu => h u (List.mem_cons_of_mem _ hu)]

theorem sl_mem (L : List (Nat × AV)) : ∀ (P : List (Nat × AV)) (i : Nat) (v : AV), (i, v) ∈ P → (∀ u, (i, u) ∈ P → u = v) → sl (P ++ L) i = v
  | [], i, v, h, _ => by cases h
  | (j, u) :: P, i, v, h, hu => by
    show (if i = j then u else sl (P ++ L) i) = v
    by_cases hij : i = j
    · rw [if_pos hij]
      exact hu u (by rw [hij]; simp)
    · rw [if_neg hij]
      refine sl_mem L P i v ?_ fun x hx => hu x (List.mem_cons_of_mem _ hx)
      rcases List.mem_cons.1 h with h | h
      · injection h with e1 e2
        exact absurd e1 hij
      · exact h

structure Planned (ops : Array Oper) (n : Nat) (eff : List Nat) (F : List (Nat × Nat)) : Prop where
  lt : ∀ {i j : Nat}, j < ops.size → i ∈ direct ops j → i < j
  dst : ∀ {j d : Nat}, dstOf ops j = some d → d < n ∧ ∀ {k : Nat} {o : Oper}, ops[k]? = some o → d ∈ o.looksAt ops → j ∈ (ancs ops ops.size).getD k []
  one : ∀ {i j d : Nat}, dstOf ops i = some d → dstOf ops j = some d → i = j
  may : ∀ {j p : Nat}, j < ops.size → p ≤ eff.length → mayAt (ancs ops ops.size) eff j p = true → (j, p) ∈ F
  chain : chained (ancs ops ops.size) eff = true
  effs : ∀ {e : Nat}, e ∈ eff → e < ops.size

theorem dstOf_lt {ops : Array Oper} {j d : Nat} (h : dstOf ops j = some d) : j < ops.size := by
  unfold dstOf at h
  obtain ⟨o, ho, _⟩ := Option.bind_eq_some_iff.1 h
  exact (Array.getElem?_eq_some_iff.1 ho).1

theorem planOK_spec {ops : Array Oper} {n : Nat} {eff : List Nat} {F : List (Nat × Nat)} (h : planOK ops n eff F = true) : Planned ops n eff F := by
  unfold planOK at h
  simp only [Bool.and_eq_true] at h
  obtain ⟨⟨h1, h2⟩, h3⟩ := h
  have hj := fun j (hj : j < ops.size) => List.all_eq_true.1 h1 j (List.mem_range.2 hj)
  simp only [Bool.and_eq_true] at hj
  have lt1 : ∀ {i j d : Nat}, i < j → dstOf ops i = some d → dstOf ops j = some d → False := by
    intro i j d hij hi hj'
    have := List.all_eq_true.1 (hj j (dstOf_lt hj')).1.2 i (List.mem_range.2 hij)
    rw [hi, hj'] at this
    simp at this
  refine ⟨fun {i j} hjs hi => by simpa using List.all_eq_true.1 (hj j hjs).1.1.1 i hi, fun {j d} hd => ?_, fun {i j d} hi hj' => ?_, fun {j p} hjs hp hm => ?_, h2, fun {e} he => by simpa using List.all_eq_true.1 h3 e he⟩
  · have := (hj j (dstOf_lt hd)).1.1.2
    rw [hd] at this
    simp only [Bool.and_eq_true, decide_eq_true_eq] at this
    refine ⟨this.1, fun {k o} ho hl => ?_⟩
    have hk := List.all_eq_true.1 this.2 k (List.mem_range.2 (Array.getElem?_eq_some_iff.1 ho).1)
    simp only [ho] at hk
    rcases Bool.or_eq_true _ _ ▸ hk with hk | hk
    · simp [hl] at hk
    · simpa using hk
  · rcases Nat.lt_trichotomy i j with h | h | h
    · exact (lt1 h hi hj').elim
    · exact h
    · exact (lt1 h hj' hi).elim
  · have := List.all_eq_true.1 (hj j hjs).2 p (List.mem_range.2 (by omega))
    rcases Bool.or_eq_true _ _ ▸ this with h | h
    · rw [hm] at h
      cases h
    · simpa using h

theorem drawnV_sound (hS : Sound E O) {ops : Array Oper} {n : Nat} {eff : List Nat} {F : List (Nat × Nat)} (hok : Planned ops n eff F) {val : List AV} {hs : List (List AObj)} {L0 : List (Nat × AV)}
    (hf : Facts E O ops (sl (pairs ops val ++ L0)) n val hs eff F) {Q : Exit → Act → World → Prop} (hQ : ∀ a' w', Rel E γ₀ H₀ Φ₀ w₀ ⟨sl (pairs ops val ++ L0), n, hs.getD eff.length []⟩ a' w' → Q .normal a' w') :
    ∀ (fuel : Nat) (listed : Array Bool) (σ : St) (a : Act) (w : World) (p : Nat), listed.size = ops.size → (todo ops listed).length ≤ fuel → (∀ j, listed.getD j false = true → ∀ i ∈ direct ops j, listed.getD i false = true) →
      p ≤ eff.length → (∀ e ∈ eff.take p, listed.getD e false = true) → (∀ e ∈ eff.drop p, listed.getD e false = false) → σ.h = hs.getD p [] → σ.n = n →
      (∀ j d, listed.getD j false = true → dstOf ops j = some d → σ.t d = val.getD j .any) → (∀ i, (∀ j, listed.getD j false = true → dstOf ops j ≠ some i) → σ.t i = sl L0 i) →
      Rel E γ₀ H₀ Φ₀ w₀ σ a w → wpAny E.P .any ops Q fuel listed a w := by
  have tF : ∀ j d, dstOf ops j = some d → sl (pairs ops val ++ L0) d = val.getD j .any := by
    intro j d hd
    refine sl_mem L0 _ d _ (List.mem_filterMap.2 ⟨j, List.mem_range.2 (dstOf_lt hd), by rw [hd]; rfl⟩) fun u hu => ?_
    obtain ⟨k, hk, he⟩ := List.mem_filterMap.1 hu
    obtain ⟨d', hd', he'⟩ := Option.map_eq_some_iff.1 he
    injection he' with e1 e2
    subst e1
    rw [← e2, hok.one hd' hd]
  have tF0 : ∀ i, (∀ j, dstOf ops j ≠ some i) → sl (pairs ops val ++ L0) i = sl L0 i := by
    intro i hi
    refine sl_append L0 _ i fun v hv => ?_
    obtain ⟨k, hk, he⟩ := List.mem_filterMap.1 hv
    obtain ⟨d', hd', he'⟩ := Option.map_eq_some_iff.1 he
    injection he' with e1 e2
    subst e1
    exact hi k hd'
  have gt : ∀ (listed : Array Bool) (j : Nat), listed.size = ops.size → j < ops.size → (listed.getD j true = listed.getD j false) := by
    intro listed j hsz hj
    have : j < listed.size := by omega
    simp [this]
  have last : ∀ (listed : Array Bool) (σ : St) (p : Nat), listed.size = ops.size → todo ops listed = [] → p ≤ eff.length → (∀ e ∈ eff.drop p, listed.getD e false = false) → σ.h = hs.getD p [] → σ.n = n →
      (∀ j d, listed.getD j false = true → dstOf ops j = some d → σ.t d = val.getD j .any) → (∀ i, (∀ j, listed.getD j false = true → dstOf ops j ≠ some i) → σ.t i = sl L0 i) → σ = ⟨sl (pairs ops val ++ L0), n, hs.getD eff.length []⟩ := by
    intro listed σ p hsz h0 hp hd hh hn ha hb
    have hall : ∀ j, j < ops.size → listed.getD j false = true := by
      intro j hj
      cases hb : listed.getD j false with
      | true => rfl
      | false =>
        have : j ∈ todo ops listed := List.mem_filter.2 ⟨List.mem_range.2 hj, by rw [gt listed j hsz hj, hb]; rfl⟩
        rw [h0] at this
        cases this
    have hpe : p = eff.length := by
      rcases Nat.lt_or_ge p eff.length with h | h
      · have hm : eff[p] ∈ eff.drop p := by
          rw [List.drop_eq_getElem_cons h]
          exact List.mem_cons_self
        have h1 := hd _ hm
        rw [hall _ (hok.effs (List.getElem_mem h))] at h1
        cases h1
      · omega
    obtain ⟨t, m, hh'⟩ := σ
    simp only at hh hn ha hb
    subst hn hpe
    rw [hh]
    congr 1
    funext i
    by_cases hi : ∃ j, dstOf ops j = some i
    · obtain ⟨j, hj⟩ := hi
      rw [ha j i (hall j (dstOf_lt hj)) hj, tF j i hj]
    · rw [tF0 i fun j hj => hi ⟨j, hj⟩, hb i fun j _ hj => hi ⟨j, hj⟩]
  have none_left : ∀ (listed : Array Bool), listed.size = ops.size → todo ops listed = [] → Region.ready .any ops listed = [] := by
    intro listed hsz h
    refine List.eq_nil_iff_forall_not_mem.2 fun j hj => ?_
    obtain ⟨h1, o, ho, _⟩ := mem_ready.1 hj
    have : j ∈ todo ops listed := List.mem_filter.2 ⟨List.mem_range.2 (Array.getElem?_eq_some_iff.1 ho).1, by simp [h1]⟩
    rw [h] at this
    cases this
  have ready_left : ∀ (listed : Array Bool), listed.size = ops.size → todo ops listed ≠ [] → Region.ready .any ops listed ≠ [] := by
    intro listed hsz hne hnone
    obtain ⟨j, rest, hjr⟩ := List.exists_cons_of_ne_nil hne
    have hj : j ∈ todo ops listed := by rw [hjr]; simp
    obtain ⟨hjs, hun⟩ := List.mem_filter.1 hj
    have hjs' := List.mem_range.1 hjs
    have hsort : (todo ops listed).Pairwise (· < ·) := (List.pairwise_lt_range (n := ops.size)).filter _
    rw [hjr] at hsort
    have hready : j ∈ Region.ready .any ops listed := by
      refine mem_ready.2 ⟨by simpa using hun, ops[j], Array.getElem?_eq_getElem hjs', fun e he hb => ?_⟩
      have hd : e.on ∈ direct ops j := by
        simp only [direct, Array.getElem?_eq_getElem hjs']
        exact List.mem_map.2 ⟨e, List.mem_filter.2 ⟨by simpa using he, hb⟩, rfl⟩
      have hlt := hok.lt hjs' hd
      have his : e.on < listed.size := by omega
      cases hb2 : listed.getD e.on true with
      | true =>
        simp [his] at hb2 ⊢
        exact hb2
      | false =>
        exfalso
        have hm : e.on ∈ todo ops listed := List.mem_filter.2 ⟨List.mem_range.2 (by omega), by simpa using hb2⟩
        rw [hjr] at hm
        rcases List.mem_cons.1 hm with h | h
        · omega
        · have := (List.pairwise_cons.1 hsort).1 e.on h
          omega
    rw [hnone] at hready
    cases hready
  intro fuel
  induction fuel with
  | zero =>
    intro listed σ a w p hsz hl hdown hp hep hed hh hn ha hb hR
    have h0 : todo ops listed = [] := List.eq_nil_of_length_eq_zero (by omega)
    have := last listed σ p hsz h0 hp hed hh hn ha hb
    subst this
    exact ⟨none_left listed hsz h0, hQ a w hR⟩
  | succ fuel ih =>
    intro listed σ a w p hsz hl hdown hp hep hed hh hn ha hb hR
    refine ⟨fun hnone => ?_, fun j hj => ?_⟩
    · by_cases h0 : todo ops listed = []
      · have := last listed σ p hsz h0 hp hed hh hn ha hb
        subst this
        exact hQ a w hR
      · exact absurd hnone (ready_left listed hsz h0)
    · obtain ⟨h1, o, ho, hbound⟩ := mem_ready.1 hj
      have hjs : j < ops.size := (Array.getElem?_eq_some_iff.1 ho).1
      have hjt : j ∈ todo ops listed := List.mem_filter.2 ⟨List.mem_range.2 hjs, by simp [h1]⟩
      have hjun : listed.getD j false = false := by
        have := (List.mem_filter.1 hjt).2
        rw [gt listed j hsz hjs] at this
        simpa using this
      obtain ⟨l, r, e1, e2, hl1⟩ := todo_front hjt
      have hdir : ∀ i ∈ direct ops j, listed.getD i false = true := by
        intro i hi
        simp only [direct, ho] at hi
        obtain ⟨e, he, rfl⟩ := List.mem_map.1 hi
        have he' := List.mem_filter.1 he
        exact hbound e (by simpa using he'.1) he'.2
      have hanc := ancs_listed (ops := ops) (L := fun i => listed.getD i false = true) hdown ops.size j hdir
      have hmay : mayAt (ancs ops ops.size) eff j p = true := by
        unfold mayAt
        rw [Bool.and_eq_true]
        refine ⟨List.all_eq_true.2 fun e he => ?_, List.all_eq_true.2 fun e he => ?_⟩
        · have hel := hep e he
          rw [Bool.and_eq_true]
          refine ⟨?_, ?_⟩
          · simp only [bne_iff_ne, ne_eq]
            intro e'
            rw [e', hjun] at hel
            cases hel
          · cases hc : ((ancs ops ops.size).getD e []).contains j with
            | false => rfl
            | true =>
              have := ancs_listed (ops := ops) (L := fun i => listed.getD i false = true) hdown ops.size e (hdown e hel) j (by simpa using hc)
              rw [hjun] at this
              cases this
        · have hel := hed e he
          cases hc : ((ancs ops ops.size).getD j []).contains e with
          | false => rfl
          | true =>
            have := hanc e (by simpa using hc)
            rw [hel] at this
            cases this
      have hfact := hf.at (hok.may hjs hp hmay) ho
      have hsame : ∀ d ∈ o.looksAt ops, σ.t d = sl (pairs ops val ++ L0) d := by
        intro d hd
        by_cases hk : ∃ k, dstOf ops k = some d
        · obtain ⟨k, hk⟩ := hk
          rw [tF k d hk]
          exact ha k d (hanc k ((hok.dst hk).2 ho hd)) hk
        · rw [tF0 d fun k hk' => hk ⟨k, hk'⟩]
          exact hb d fun k _ hk' => hk ⟨k, hk'⟩
      have hdoes : adoes E O ops σ o = some (val.getD j .any, hs.getD (if eff.contains j then p + 1 else p) []) := by
        obtain ⟨t, m, hh'⟩ := σ
        simp only at hh hn hsame
        subst hh hn
        rw [adoes_congr2 hsame]
        exact hfact
      have hdst : o.dst = dstOf ops j := by simp [dstOf, ho]
      have hput : put σ o.dst (val.getD j .any) (hs.getD (if eff.contains j then p + 1 else p) []) = some ⟨putT σ.t (val.getD j .any) o.dst, n, hs.getD (if eff.contains j then p + 1 else p) []⟩ := by
        unfold put putT
        cases hd : o.dst with
        | none => simp only [hn]
        | some d =>
          have hdn := (hok.dst (by rw [← hdst, hd] : dstOf ops j = some d)).1
          simp only [hn, if_pos hdn]
      have hs1 : astep E O ops σ o = some ⟨putT σ.t (val.getD j .any) o.dst, n, hs.getD (if eff.contains j then p + 1 else p) []⟩ := by
        rw [astep_does, hdoes]
        exact hput
      have hset : ∀ i, (listed.setIfInBounds j true).getD i false = true → i = j ∨ listed.getD i false = true := by
        intro i hi
        by_cases hij : j = i
        · exact .inl hij.symm
        · rw [getD_set_ne false hij] at hi
          exact .inr hi
      have hsetj : (listed.setIfInBounds j true).getD j false = true := by
        have : j < listed.size := by omega
        simp [this]
      have hseto : ∀ i, listed.getD i false = true → (listed.setIfInBounds j true).getD i false = true := fun i hi => getD_set_true hi
      have hstep := astep_sound hS hs1 hR (K := wpAny E.P .any ops Q fuel (listed.setIfInBounds j true)) (Q := Q) (fun a' w' hR' => by
        have common : ∀ p', p' ≤ eff.length → (∀ e ∈ eff.take p', (listed.setIfInBounds j true).getD e false = true) → (∀ e ∈ eff.drop p', (listed.setIfInBounds j true).getD e false = false) → (if eff.contains j then p + 1 else p) = p' →
            wpAny E.P .any ops Q fuel (listed.setIfInBounds j true) a' w' := by
          intro p' hp' hep' hed' hpp
          refine ih (listed.setIfInBounds j true) _ a' w' p' (by simpa using hsz) ?_ ?_ hp' hep' hed' (by rw [hpp]) rfl ?_ ?_ hR'
          · rw [e2]
            rw [e1] at hl
            simp only [List.length_append, List.length_cons] at hl ⊢
            omega
          · intro k hk i hi
            rcases hset k hk with rfl | hk
            · exact hseto _ (hdir i hi)
            · exact hseto _ (hdown k hk i hi)
          · intro k d hk hd
            show putT σ.t (val.getD j .any) o.dst d = _
            by_cases hkj : k = j
            · subst hkj
              rw [hdst, hd]
              show upd σ.t d _ d = _
              simp [upd]
            · rcases hset k hk with h | hk
              · exact absurd h hkj
              · rw [hdst]
                cases hjd : dstOf ops j with
                | none => exact ha k d hk hd
                | some d' =>
                  show upd σ.t d' _ d = _
                  unfold upd
                  rw [if_neg (fun e => hkj (hok.one hd (by rw [hjd, e])))]
                  exact ha k d hk hd
          · intro i hi
            show putT σ.t (val.getD j .any) o.dst i = _
            rw [hdst]
            have hold := hb i fun k hk => hi k (hseto k hk)
            cases hjd : dstOf ops j with
            | none => exact hold
            | some d' =>
              show upd σ.t d' _ i = _
              unfold upd
              rw [if_neg (fun e => hi j hsetj (by rw [hjd, e]))]
              exact hold
        by_cases hje : j ∈ eff
        · -- it is the next one
          have hjd : j ∈ eff.drop p := by
            rcases List.mem_append.1 (by rw [List.take_append_drop]; exact hje : j ∈ eff.take p ++ eff.drop p) with h | h
            · have := hep j h
              rw [hjun] at this
              cases this
            · exact h
          have hpl : p < eff.length := by
            rcases Nat.lt_or_ge p eff.length with h | h
            · exact h
            · rw [List.drop_eq_nil_of_le h] at hjd
              cases hjd
          have hat : eff[p] = j := by
            rw [List.drop_eq_getElem_cons hpl] at hjd
            rcases List.mem_cons.1 hjd with h | h
            · exact h.symm
            · have hanc1 := chained_at hok.chain (List.getElem?_eq_getElem hpl) h
              have h2 := hanc _ hanc1
              have h3 := hed eff[p] (by rw [List.drop_eq_getElem_cons hpl]; exact List.mem_cons_self)
              rw [h2] at h3
              cases h3
          refine common (p + 1) (by omega) (fun e he => ?_) (fun e he => ?_) (by rw [if_pos (by simpa using hje)])
          · rw [List.take_add_one, List.getElem?_eq_getElem hpl, hat] at he
            rcases List.mem_append.1 he with h | h
            · exact hseto e (hep e h)
            · simp only [Option.toList_some, List.mem_singleton] at h
              rw [h]
              exact hsetj
          · have hed1 := hed e (by rw [List.drop_eq_getElem_cons hpl]; exact List.mem_cons_of_mem _ he)
            have hne : j ≠ e := by
              intro e'
              subst e'
              have hanc1 := chained_at hok.chain (List.getElem?_eq_getElem hpl) he
              rw [hat] at hanc1
              have := hanc _ hanc1
              rw [hjun] at this
              cases this
            rw [getD_set_ne false hne]
            exact hed1
        · refine common p hp (fun e he => hseto e (hep e he)) (fun e he => ?_) (by rw [if_neg (by simpa using hje)])
          have hne : j ≠ e := fun e' => hje (by rw [e']; exact List.mem_of_mem_drop he)
          rw [getD_set_ne false hne]
          exact hed e he)
      unfold wpOp
      rw [ho]
      simp only
      split
      · rename_i hw
        rw [if_pos hw] at hstep
        exact .inl hstep
      · rename_i hw
        rw [if_neg hw] at hstep
        exact hstep

/-- A region that draws its order: each operation gives what it gives, however the others lie. -/
theorem AW.dregV (hP : E.P.follows .mixedOrders = true) (hS : Sound E O) {k id n : Nat} {L0 : List (Nat × AV)} {h : List AObj} {ops : Array Oper} {Q : Exit → St → Prop} (eff : List Nat) (F : List (Nat × Nat)) (val : List AV) (hs : List (List AObj)) (LF : List (Nat × AV))
    (hLF : pairs ops val ++ L0 = LF) (hok : planOK ops n eff F = true) (h0 : hs.getD 0 [] = h) (hf : Facts E O ops (sl LF) n val hs eff F) (L : List (Nat × AV)) (h' : List AObj) (hL : keeps (sl LF) L) (hh : hs.getD eff.length [] = h') (hQ : Q .normal ⟨sl L, n, h'⟩) :
    AW E k (.region id ops true) Q ⟨sl L0, n, h⟩ := by
  subst hLF
  intro γ₀ H₀ Φ₀ w₀ a w hl hR
  refine wp_region_any hP ?_
  have htodo : todo ops (Array.replicate ops.size false) = List.range ops.size := by
    refine List.filter_eq_self.2 fun i hi => ?_
    simp [List.mem_range.1 hi]
  have hnone : ∀ i, (Array.replicate ops.size false).getD i false = false := by
    intro i
    by_cases hi : i < ops.size
    · simp [hi]
    · simp [hi]
  refine drawnV_sound hS (planOK_spec hok) hf (γ₀ := γ₀) (H₀ := H₀) (Φ₀ := Φ₀) (w₀ := w₀) (fun a' w' hR' => ?_) ops.size _ ⟨sl L0, n, h⟩ a _ 0 (by simp) (by rw [htodo]; simp) (fun j hj => by rw [hnone] at hj; cases hj) (Nat.zero_le _) (fun e he => by simp at he) (fun e _ => hnone e) h0.symm rfl
    (fun j d hj => by rw [hnone] at hj; cases hj) (fun i _ => rfl) ?_
  · have hw : Weak E k ⟨sl (pairs ops val ++ L0), n, hs.getD eff.length []⟩ ⟨sl L, n, hs.getD eff.length []⟩ := Weak.forget (keeps_sl hL)
    have hR3 := hw γ₀ H₀ Φ₀ w₀ a' w' hl hR'
    rw [hh] at hR3
    exact ⟨_, hR3, hQ⟩
  · obtain ⟨⟨γ, Φ, hok', hs'⟩, hsz, hd, h0'⟩ := hR
    have hk : Ok E γ h Φ w γ h Φ { w with drawn := w.drawn + 1 } := hok'.inv.grow (fun _ _ => rfl) (Nat.le_refl _) rfl rfl rfl (fun _ _ h => h) (fun _ _ h _ => h) hok'.inv.phi
    exact ⟨⟨γ, Φ, hok'.trans hk, fun i => (hs' i).mono hk.evo⟩, hsz, hd, h0'⟩

theorem Facts.nil {ops : Array Oper} {t : Nat → AV} {n : Nat} {val : List AV} {hs : List (List AObj)} {eff : List Nat} : Facts E O ops t n val hs eff [] := trivial

theorem Facts.cons {ops : Array Oper} {t : Nat → AV} {n : Nat} {val : List AV} {hs : List (List AObj)} {eff : List Nat} {j p : Nat} {F : List (Nat × Nat)} {v : AV} {h1 h2 : List AObj} (hv : val.getD j .any = v) (e1 : hs.getD p [] = h1) (e2 : hs.getD (if eff.contains j then p + 1 else p) [] = h2)
    (h : ((ops[j]?).bind fun o => adoes E O ops ⟨t, n, h1⟩ o) = some (v, h2)) (hr : Facts E O ops t n val hs eff F) : Facts E O ops t n val hs eff ((j, p) :: F) :=
  ⟨fun o' ho' => by
    rw [ho', Option.bind_some] at h
    rw [e1, e2, hv]
    exact h, hr⟩

end

/-- A nil slice in a slot, as a plain slice. -/
theorem Weak.nilPV {E : Env} {k : Nat} {σ : St} (i : Nat) (hi : σ.t i = .nils) : Weak E k σ ⟨upd σ.t i (.pv (.slice [])), σ.n, σ.h⟩ := by
  intro γ₀ H₀ Φ₀ w₀ a w _ hR
  obtain ⟨⟨γ, Φ, hok, hs⟩, hn, hd, hl0⟩ := hR
  refine ⟨⟨γ, Φ, hok, fun j => ?_⟩, hn, hd, hl0⟩
  show ARel γ σ.h Φ w _ (upd σ.t i (.pv (.slice [])) j)
  unfold upd
  split
  · rename_i hj
    subst hj
    have h := hs j
    rw [hi] at h
    generalize a.tmps.getD j undef = v at h ⊢
    cases h
    exact .pv .sliceNil
  · exact hs j

theorem qconv_ii {T : Nat → Option TI} {s d a b a' b' : Nat} {k k' : IntKind} {z z' : Option (List PV)} (h : T s = some ⟨.int k, a, b, z⟩) (h' : T d = some ⟨.int k', a', b', z'⟩) (k2 : IntKind) (n : Int) : qconv T s d (.pv (.int k2 n)) = some (.pv (.int k' (k'.wrap n))) := by
  simp only [qconv, h, h']
theorem qconv_ss {T : Nat → Option TI} {s d a b a' b' : Nat} {z z' : Option (List PV)} (h : T s = some ⟨.str, a, b, z⟩) (h' : T d = some ⟨.str, a', b', z'⟩) (x : List UInt8) : qconv T s d (.pv (.str x)) = some (.pv (.str x)) := by
  simp only [qconv, h, h']

end Go.Abs
