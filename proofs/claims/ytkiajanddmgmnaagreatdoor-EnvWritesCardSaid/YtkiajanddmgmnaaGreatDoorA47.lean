import Derived.Test.YtkiajanddmgmnaaGreatDoorA45
import Derived.Test.YtkiajanddmgmnaaGreatDoorA42
/- The abstract machine, part 47: regions that draw their order and make variables at places that are kept free. -/
namespace Go.Abs
open Go.RowKit

/-- The operations with effects that are done, for each state. -/
def mayAt2 (A : List (List Nat)) (eff D : List Nat) (j : Nat) : Bool :=
  (D.all fun e => e != j && !(A.getD e []).contains j) && (eff.all fun e => D.contains e || !(A.getD j []).contains e)

def planOK2 (ops : Array Oper) (n : Nat) (eff : List Nat) (S : List (List Nat)) (fin : Nat) (F : List (Nat × Nat × Nat)) : Bool :=
  let A := ancs ops ops.size
  let R := List.range ops.size
  (R.all fun j => ((direct ops j).all fun i => decide (i < j)) && (match dstOf ops j with
    | some d => decide (d < n) && R.all fun k => match ops[k]? with
      | some o => !(o.looksAt ops).contains d || (A.getD k []).contains j
      | none => true
    | none => true) && ((List.range j).all fun i => dstOf ops i == none || dstOf ops i != dstOf ops j) &&
    ((List.range S.length).all fun s => !mayAt2 A eff (S.getD s []) j || F.any fun f => f.1 == j && f.2.1 == s && decide (f.2.2 < S.length) &&
      (if eff.contains j = true then eff.all fun e => (S.getD f.2.2 []).contains e == (e == j || (S.getD s []).contains e) else f.2.2 == s))) &&
  (eff.all fun e => decide (e < ops.size)) && (S.all fun D => D.all fun e => eff.contains e) && ((List.range S.length).all fun s => s == fin || eff.any fun e => !(S.getD s []).contains e) && decide (0 < S.length) && (S.getD 0 [] == [])

/-- What an operation does: as the machine says, or a variable that is made where a place was kept free. -/
def Does1 (E : Env) (O : Orc) (ops : Array Oper) (σ : St) (o : Oper) (v : AV) (h' : List AObj) : Prop :=
  adoes E O ops σ o = some (v, h') ∨
    ∃ ty d l ti z, o.op = .alloc ty ∧ o.guard = none ∧ o.dst = some d ∧ E.bT ≠ some ty ∧ E.T ty = some ti ∧ ti.zero = some z ∧ σ.h[l]? = some (.hold d) ∧ v = .ref l 0 ∧ h' = σ.h.set l (.var (z.map zAV))

def Facts2 (E : Env) (O : Orc) (ops : Array Oper) (t : Nat → AV) (n : Nat) (val : List AV) (hs : List (List AObj)) : List (Nat × Nat × Nat) → Prop
  | [] => True
  | (j, s, s') :: r => (∀ o, ops[j]? = some o → Does1 E O ops ⟨t, n, hs.getD s []⟩ o (val.getD j .any) (hs.getD s' [])) ∧ Facts2 E O ops t n val hs r

section
variable {E : Env} {O : Orc} {γ₀ : List Gh} {H₀ : List AObj} {Φ₀ : Nat → Nat → Prop} {w₀ : World} {σ : St} {k : Nat}

theorem Weak.hold (d : Nat) : Weak E k σ ⟨σ.t, σ.n, σ.h ++ [.hold d]⟩ := by
  intro γ₀ H₀ Φ₀ w₀ a' w _ hR
  obtain ⟨⟨γ, Φ, hok, hs⟩, hn, hd, hl0⟩ := hR
  have hk := hok.inv.pushObj (w' := w) (Φ' := Φ) (fun _ _ => rfl) (Nat.le_refl _) rfl rfl rfl (fun _ _ h => h) (fun _ _ h _ => h) (fun b k h => hok.inv.phi b k h) ⟨.slice none 0 0, []⟩ (.hold d) (fun b hb => by cases hb) (fun hE => ⟨rfl, rfl⟩)
  exact ⟨⟨_, _, hok.trans hk, fun i => (hs i).mono hk.evo⟩, hn, hd, hl0⟩

theorem Facts2.at {ops : Array Oper} {t : Nat → AV} {n : Nat} {val : List AV} {hs : List (List AObj)} : ∀ {F : List (Nat × Nat × Nat)}, Facts2 E O ops t n val hs F → ∀ {j s s' : Nat}, (j, s, s') ∈ F → ∀ {o : Oper}, ops[j]? = some o →
    Does1 E O ops ⟨t, n, hs.getD s []⟩ o (val.getD j .any) (hs.getD s' [])
  | [], _, _, _, _, h => by cases h
  | (j', p', q') :: r, ⟨h1, h2⟩, j, s, s', h => by
    rcases List.mem_cons.1 h with h | h
    · injection h with e1 e2
      injection e2 with e2 e3
      subst e1 e2 e3
      exact fun ho => h1 _ ho
    · exact fun ho => h2.at h ho

/-- A variable that is made where a place was kept free. -/
theorem holdFill_sound {ops : Array Oper} {o : Oper} {a : Act} {w : World} {ty d l : Nat} {ti : TI} {z : List PV} (hop : o.op = .alloc ty) (hg : o.guard = none) (hd : o.dst = some d) (_hb : E.bT ≠ some ty) (hT : E.T ty = some ti) (hz : ti.zero = some z) (hl : σ.h[l]? = some (.hold d)) (hdn : d < σ.n)
    (hR : Rel E γ₀ H₀ Φ₀ w₀ σ a w) {K : Act → World → Prop} {Q : Exit → Act → World → Prop} (hK : ∀ a' w', Rel E γ₀ H₀ Φ₀ w₀ ⟨upd σ.t d (.ref l 0), σ.n, σ.h.set l (.var (z.map zAV))⟩ a' w' → K a' w') :
    if Region.wanted o (yielded ops a.tmps) = true then o.wp E.P a w K Q else K (a.put o.dst undef) w := by
  obtain ⟨⟨γ, Φ, hok, hs⟩, hsz, hdd, h0⟩ := hR
  rw [if_pos (by simp [Region.wanted, hg])]
  have hI := hok.inv
  obtain ⟨g, hgl, hO⟩ := hI.gh hl
  obtain ⟨i, dsc, hi, hsi, _, hdsc, hk, hzz⟩ := (E.hT _ _ hT).info
  obtain ⟨zv, hzv, hzl, _, hzr, _⟩ := hzz z hz
  have hzrun : (zeroValue ty).run E.P w = .ok zv w := by simp [zeroValue, typeInfo, hi, hzv]
  have hnew : (w.alloc (.cells ⟨zv.cells.toList⟩ ty)).heap[w.heap.size]? = some (.cells ⟨zv.cells.toList⟩ ty (0, 0)) := heap_alloc_new w _
  have hset := hI.setObj (o' := .var (z.map zAV)) (g' := ⟨.pointer (some ⟨w.heap.size, 0, none⟩), [w.heap.size]⟩) (w' := w.alloc (.cells ⟨zv.cells.toList⟩ ty)) (Φ' := Φ) hl hgl (fun b hb _ => alloc_heap_lt _ b hb) (by simp) rfl rfl rfl (fun _ _ h => h) (fun _ _ h _ _ => h) (fun b k h => Nat.lt_of_lt_of_le (hI.phi b k h) (by simp))
    (fun b k _ hb => by rw [hO.2] at hb; cases hb) (fun b hb => by simp at hb; subst hb; exact ⟨.inr (Nat.le_refl _), by simp⟩) (.inr ⟨none, 0, 0, hO.1⟩) (fun e sz n h => by cases h)
    (fun hE => ⟨w.heap.size, ty, zv.cells.toList, rfl, rfl, hnew, by simpa using hzl, fun k v c hv hc => by
      rw [List.getElem?_map] at hc
      obtain ⟨p, hp, rfl⟩ := Option.map_eq_some_iff.1 hc
      have h1 := hzr k v p hv hp
      exact ⟨(h1.2.1 Φ w).one h1.1, zAV_rel h1⟩, fun k hk => by
      have := hI.phi _ k hk
      omega⟩)
  have hrun : (Instr.alloc ty true (.tuple #[])).run E.P w = .ok (.pointer (some ⟨w.heap.size, 0, none⟩)) (w.alloc (.cells ⟨zv.cells.toList⟩ ty)) := by simp [Instr.alloc, hzrun, newVar, newRow]
  have he : (do pure (Next.value (← Instr.alloc ty true (.tuple #[]))) : Sem Next).run E.P w = (execOp a.eval o).run E.P w := by unfold execOp; simp only [hop] <;> rfl
  have hp : put σ o.dst (.ref l 0) (σ.h.set l (.var (z.map zAV))) = some ⟨upd σ.t d (.ref l 0), σ.n, σ.h.set l (.var (z.map zAV))⟩ := by
    unfold put
    rw [hd]
    simp only [if_pos hdn]
  refine wp_value (by rw [← he]; exact run_vval hrun) (hK _ _ (rel_put hok hs hsz hdd h0 hset (.inr ?_) hp))
  refine .ref _ _ _ ?_
  unfold gv
  rw [List.getElem?_set_self (List.getElem?_eq_some_iff.1 hgl).1]
  rfl

structure Planned2 (ops : Array Oper) (n : Nat) (eff : List Nat) (S : List (List Nat)) (fin : Nat) (F : List (Nat × Nat × Nat)) : Prop where
  lt : ∀ {i j : Nat}, j < ops.size → i ∈ direct ops j → i < j
  dst : ∀ {j d : Nat}, dstOf ops j = some d → d < n ∧ ∀ {k : Nat} {o : Oper}, ops[k]? = some o → d ∈ o.looksAt ops → j ∈ (ancs ops ops.size).getD k []
  one : ∀ {i j d : Nat}, dstOf ops i = some d → dstOf ops j = some d → i = j
  may : ∀ {j s : Nat}, j < ops.size → s < S.length → mayAt2 (ancs ops ops.size) eff (S.getD s []) j = true → ∃ s', (j, s, s') ∈ F ∧ s' < S.length ∧ (if eff.contains j = true then ∀ e ∈ eff, (S.getD s' []).contains e = (e == j || (S.getD s []).contains e) else s' = s)
  effs : ∀ {e : Nat}, e ∈ eff → e < ops.size
  sub : ∀ {s e : Nat}, e ∈ S.getD s [] → e ∈ eff
  last : ∀ {s : Nat}, s < S.length → (∀ e ∈ eff, (S.getD s []).contains e = true) → s = fin
  pos : 0 < S.length
  first : S.getD 0 [] = []

theorem planOK2_spec {ops : Array Oper} {n : Nat} {eff : List Nat} {S : List (List Nat)} {fin : Nat} {F : List (Nat × Nat × Nat)} (h : planOK2 ops n eff S fin F = true) : Planned2 ops n eff S fin F := by
  unfold planOK2 at h
  simp only [Bool.and_eq_true] at h
  obtain ⟨⟨⟨⟨⟨h1, h2⟩, h3⟩, h4⟩, h5⟩, h6⟩ := h
  have hj := fun j (hj : j < ops.size) => List.all_eq_true.1 h1 j (List.mem_range.2 hj)
  simp only [Bool.and_eq_true] at hj
  have lt1 : ∀ {i j d : Nat}, i < j → dstOf ops i = some d → dstOf ops j = some d → False := by
    intro i j d hij hi hj'
    have := List.all_eq_true.1 (hj j (dstOf_lt hj')).1.2 i (List.mem_range.2 hij)
    rw [hi, hj'] at this
    simp at this
  refine ⟨fun {i j} hjs hi => by simpa using List.all_eq_true.1 (hj j hjs).1.1.1 i hi, fun {j d} hd => ?_, fun {i j d} hi hj' => ?_, fun {j s} hjs hs hm => ?_, fun {e} he => by simpa using List.all_eq_true.1 h2 e he, fun {s e} he => ?_, fun {s} hs hall => ?_, by simpa using h5, by simpa using h6⟩
  · have := (hj j (dstOf_lt hd)).1.1.2
    rw [hd] at this
    simp only [Bool.and_eq_true, decide_eq_true_eq] at this
    refine ⟨this.1, fun {k o} ho hl => ?_⟩
    have hk := List.all_eq_true.1 this.2 k (List.mem_range.2 (Array.getElem?_eq_some_iff.1 ho).1)
    simp only [ho] at hk
    rcases Bool.or_eq_true _ _ ▸ hk with hk | hk
    · simp [hl] at hk
    · simpa using hk
  · rcases Nat.lt_trichotomy i j with h | h | h
    · exact (lt1 h hi hj').elim
    · exact h
    · exact (lt1 h hj' hi).elim
  · have := List.all_eq_true.1 (hj j hjs).2 s (List.mem_range.2 hs)
    rcases Bool.or_eq_true _ _ ▸ this with h | h
    · rw [hm] at h
      cases h
    · obtain ⟨⟨j', s0, s'⟩, hf, hc⟩ := List.any_eq_true.1 h
      simp only [Bool.and_eq_true, beq_iff_eq, decide_eq_true_eq] at hc
      obtain ⟨⟨⟨rfl, rfl⟩, c3⟩, c4⟩ := hc
      refine ⟨s', hf, c3, ?_⟩
      split at c4
      · rename_i hc
        rw [if_pos hc]
        intro e he
        simpa using List.all_eq_true.1 c4 e he
      · rename_i hc
        rw [if_neg hc]
        simpa using c4
  · rcases Nat.lt_or_ge s S.length with hs | hs
    · have hmem : S.getD s [] ∈ S := by
        rw [List.getD_eq_getElem?_getD, List.getElem?_eq_getElem hs]
        exact List.getElem_mem hs
      have := List.all_eq_true.1 (List.all_eq_true.1 h3 _ hmem) e he
      simpa using this
    · rw [List.getD_eq_getElem?_getD, List.getElem?_eq_none hs] at he
      cases he
  · have := List.all_eq_true.1 h4 s (List.mem_range.2 hs)
    rcases Bool.or_eq_true _ _ ▸ this with h | h
    · simpa using h
    · obtain ⟨e, he, hc⟩ := List.any_eq_true.1 h
      rw [hall e he] at hc
      cases hc

theorem drawnW_sound (hS : Sound E O) {ops : Array Oper} {n : Nat} {eff : List Nat} {S : List (List Nat)} {fin : Nat} {F : List (Nat × Nat × Nat)} (hok : Planned2 ops n eff S fin F) {val : List AV} {hs : List (List AObj)} {L0 : List (Nat × AV)}
    (hf : Facts2 E O ops (sl (pairs ops val ++ L0)) n val hs F) {Q : Exit → Act → World → Prop} (hQ : ∀ a' w', Rel E γ₀ H₀ Φ₀ w₀ ⟨sl (pairs ops val ++ L0), n, hs.getD fin []⟩ a' w' → Q .normal a' w') :
    ∀ (fuel : Nat) (listed : Array Bool) (σ : St) (a : Act) (w : World) (s : Nat), listed.size = ops.size → (todo ops listed).length ≤ fuel → (∀ j, listed.getD j false = true → ∀ i ∈ direct ops j, listed.getD i false = true) →
      s < S.length → (∀ e ∈ eff, listed.getD e false = (S.getD s []).contains e) → σ.h = hs.getD s [] → σ.n = n →
      (∀ j d, listed.getD j false = true → dstOf ops j = some d → σ.t d = val.getD j .any) → (∀ i, (∀ j, listed.getD j false = true → dstOf ops j ≠ some i) → σ.t i = sl L0 i) →
      Rel E γ₀ H₀ Φ₀ w₀ σ a w → wpAny E.P .any ops Q fuel listed a w := by
  have tF : ∀ j d, dstOf ops j = some d → sl (pairs ops val ++ L0) d = val.getD j .any := by
    intro j d hd
    refine sl_mem L0 _ d _ (List.mem_filterMap.2 ⟨j, List.mem_range.2 (dstOf_lt hd), by rw [hd]; rfl⟩) fun u hu => ?_
    obtain ⟨k, hk, he⟩ := List.mem_filterMap.1 hu
    obtain ⟨d', hd', he'⟩ := Option.map_eq_some_iff.1 he
    injection he' with e1 e2
    subst e1
    rw [← e2, hok.one hd' hd]
  have tF0 : ∀ i, (∀ j, dstOf ops j ≠ some i) → sl (pairs ops val ++ L0) i = sl L0 i := by
    intro i hi
    refine sl_append L0 _ i fun v hv => ?_
    obtain ⟨k, hk, he⟩ := List.mem_filterMap.1 hv
    obtain ⟨d', hd', he'⟩ := Option.map_eq_some_iff.1 he
    injection he' with e1 e2
    subst e1
    exact hi k hd'
  have gt : ∀ (listed : Array Bool) (j : Nat), listed.size = ops.size → j < ops.size → (listed.getD j true = listed.getD j false) := by
    intro listed j hsz hj
    have : j < listed.size := by omega
    simp [this]
  have last : ∀ (listed : Array Bool) (σ : St) (s : Nat), listed.size = ops.size → todo ops listed = [] → s < S.length → (∀ e ∈ eff, listed.getD e false = (S.getD s []).contains e) → σ.h = hs.getD s [] → σ.n = n →
      (∀ j d, listed.getD j false = true → dstOf ops j = some d → σ.t d = val.getD j .any) → (∀ i, (∀ j, listed.getD j false = true → dstOf ops j ≠ some i) → σ.t i = sl L0 i) → σ = ⟨sl (pairs ops val ++ L0), n, hs.getD fin []⟩ := by
    intro listed σ s hsz h0 hp hd hh hn ha hb
    have hall : ∀ j, j < ops.size → listed.getD j false = true := by
      intro j hj
      cases hb : listed.getD j false with
      | true => rfl
      | false =>
        have : j ∈ todo ops listed := List.mem_filter.2 ⟨List.mem_range.2 hj, by rw [gt listed j hsz hj, hb]; rfl⟩
        rw [h0] at this
        cases this
    have hpe : s = fin := hok.last hp fun e he => by rw [← hd e he]; exact hall e (hok.effs he)
    obtain ⟨t, m, hh'⟩ := σ
    simp only at hh hn ha hb
    subst hn hpe
    rw [hh]
    congr 1
    funext i
    by_cases hi : ∃ j, dstOf ops j = some i
    · obtain ⟨j, hj⟩ := hi
      rw [ha j i (hall j (dstOf_lt hj)) hj, tF j i hj]
    · rw [tF0 i fun j hj => hi ⟨j, hj⟩, hb i fun j _ hj => hi ⟨j, hj⟩]
  have none_left : ∀ (listed : Array Bool), listed.size = ops.size → todo ops listed = [] → Region.ready .any ops listed = [] := by
    intro listed hsz h
    refine List.eq_nil_iff_forall_not_mem.2 fun j hj => ?_
    obtain ⟨h1, o, ho, _⟩ := mem_ready.1 hj
    have : j ∈ todo ops listed := List.mem_filter.2 ⟨List.mem_range.2 (Array.getElem?_eq_some_iff.1 ho).1, by simp [h1]⟩
    rw [h] at this
    cases this
  have ready_left : ∀ (listed : Array Bool), listed.size = ops.size → todo ops listed ≠ [] → Region.ready .any ops listed ≠ [] := by
    intro listed hsz hne hnone
    obtain ⟨j, rest, hjr⟩ := List.exists_cons_of_ne_nil hne
    have hj : j ∈ todo ops listed := by rw [hjr]; simp
    obtain ⟨hjs, hun⟩ := List.mem_filter.1 hj
    have hjs' := List.mem_range.1 hjs
    have hsort : (todo ops listed).Pairwise (· < ·) := (List.pairwise_lt_range (n := ops.size)).filter _
    rw [hjr] at hsort
    have hready : j ∈ Region.ready .any ops listed := by
      refine mem_ready.2 ⟨by simpa using hun, ops[j], Array.getElem?_eq_getElem hjs', fun e he hb => ?_⟩
      have hd : e.on ∈ direct ops j := by
        simp only [direct, Array.getElem?_eq_getElem hjs']
        exact List.mem_map.2 ⟨e, List.mem_filter.2 ⟨by simpa using he, hb⟩, rfl⟩
      have hlt := hok.lt hjs' hd
      have his : e.on < listed.size := by omega
      cases hb2 : listed.getD e.on true with
      | true =>
        simp [his] at hb2 ⊢
        exact hb2
      | false =>
        exfalso
        have hm : e.on ∈ todo ops listed := List.mem_filter.2 ⟨List.mem_range.2 (by omega), by simpa using hb2⟩
        rw [hjr] at hm
        rcases List.mem_cons.1 hm with h | h
        · omega
        · have := (List.pairwise_cons.1 hsort).1 e.on h
          omega
    rw [hnone] at hready
    cases hready
  intro fuel
  induction fuel with
  | zero =>
    intro listed σ a w p hsz hl hdown hp hed hh hn ha hb hR
    have h0 : todo ops listed = [] := List.eq_nil_of_length_eq_zero (by omega)
    have := last listed σ p hsz h0 hp hed hh hn ha hb
    subst this
    exact ⟨none_left listed hsz h0, hQ a w hR⟩
  | succ fuel ih =>
    intro listed σ a w p hsz hl hdown hp hed hh hn ha hb hR
    refine ⟨fun hnone => ?_, fun j hj => ?_⟩
    · by_cases h0 : todo ops listed = []
      · have := last listed σ p hsz h0 hp hed hh hn ha hb
        subst this
        exact hQ a w hR
      · exact absurd hnone (ready_left listed hsz h0)
    · obtain ⟨h1, o, ho, hbound⟩ := mem_ready.1 hj
      have hjs : j < ops.size := (Array.getElem?_eq_some_iff.1 ho).1
      have hjt : j ∈ todo ops listed := List.mem_filter.2 ⟨List.mem_range.2 hjs, by simp [h1]⟩
      have hjun : listed.getD j false = false := by
        have := (List.mem_filter.1 hjt).2
        rw [gt listed j hsz hjs] at this
        simpa using this
      obtain ⟨l, r, e1, e2, hl1⟩ := todo_front hjt
      have hdir : ∀ i ∈ direct ops j, listed.getD i false = true := by
        intro i hi
        simp only [direct, ho] at hi
        obtain ⟨e, he, rfl⟩ := List.mem_map.1 hi
        have he' := List.mem_filter.1 he
        exact hbound e (by simpa using he'.1) he'.2
      have hanc := ancs_listed (ops := ops) (L := fun i => listed.getD i false = true) hdown ops.size j hdir
      have hmay : mayAt2 (ancs ops ops.size) eff (S.getD p []) j = true := by
        unfold mayAt2
        rw [Bool.and_eq_true]
        refine ⟨List.all_eq_true.2 fun e he => ?_, List.all_eq_true.2 fun e he => ?_⟩
        · have hel : listed.getD e false = true := by rw [hed e (hok.sub he)]; simpa using he
          rw [Bool.and_eq_true]
          refine ⟨?_, ?_⟩
          · simp only [bne_iff_ne, ne_eq]
            intro e'
            rw [e', hjun] at hel
            cases hel
          · cases hc : ((ancs ops ops.size).getD e []).contains j with
            | false => rfl
            | true =>
              have := ancs_listed (ops := ops) (L := fun i => listed.getD i false = true) hdown ops.size e (hdown e hel) j (by simpa using hc)
              rw [hjun] at this
              cases this
        · cases hD : (S.getD p []).contains e with
          | true => rfl
          | false =>
            have hel := hed e he
            rw [hD] at hel
            cases hc : ((ancs ops ops.size).getD j []).contains e with
            | false => rfl
            | true =>
              have := hanc e (by simpa using hc)
              rw [hel] at this
              cases this
      obtain ⟨s', hF, hs'l, hs'⟩ := hok.may hjs hp hmay
      have hfact := hf.at hF ho
      have hsame : ∀ d ∈ o.looksAt ops, σ.t d = sl (pairs ops val ++ L0) d := by
        intro d hd
        by_cases hk : ∃ k, dstOf ops k = some d
        · obtain ⟨k, hk⟩ := hk
          rw [tF k d hk]
          exact ha k d (hanc k ((hok.dst hk).2 ho hd)) hk
        · rw [tF0 d fun k hk' => hk ⟨k, hk'⟩]
          exact hb d fun k _ hk' => hk ⟨k, hk'⟩
      have hdst : o.dst = dstOf ops j := by simp [dstOf, ho]
      have hset : ∀ i, (listed.setIfInBounds j true).getD i false = true → i = j ∨ listed.getD i false = true := by
        intro i hi
        by_cases hij : j = i
        · exact .inl hij.symm
        · rw [getD_set_ne false hij] at hi
          exact .inr hi
      have hsetj : (listed.setIfInBounds j true).getD j false = true := by
        have : j < listed.size := by omega
        simp [this]
      have hseto : ∀ i, listed.getD i false = true → (listed.setIfInBounds j true).getD i false = true := fun i hi => getD_set_true hi
      have next : ∀ a' w', Rel E γ₀ H₀ Φ₀ w₀ ⟨putT σ.t (val.getD j .any) o.dst, n, hs.getD s' []⟩ a' w' → wpAny E.P .any ops Q fuel (listed.setIfInBounds j true) a' w' := fun a' w' hR' => by
        refine ih (listed.setIfInBounds j true) _ a' w' s' (by simpa using hsz) ?_ ?_ hs'l ?_ rfl rfl ?_ ?_ hR'
        · rw [e2]
          rw [e1] at hl
          simp only [List.length_append, List.length_cons] at hl ⊢
          omega
        · intro k hk i hi
          rcases hset k hk with rfl | hk
          · exact hseto _ (hdir i hi)
          · exact hseto _ (hdown k hk i hi)
        · intro e he
          by_cases hje : eff.contains j = true
          · rw [if_pos hje] at hs'
            rw [hs' e he]
            by_cases hej : e = j
            · rw [hej, hsetj]
              simp
            · rw [getD_set_ne false (fun h => hej h.symm), hed e he, show (e == j) = false by simpa using hej, Bool.false_or]
          · rw [if_neg hje] at hs'
            have hej : j ≠ e := fun h => hje (by rw [h]; simpa using he)
            rw [getD_set_ne false hej, hs', hed e he]
        · intro k d hk hd
          show putT σ.t (val.getD j .any) o.dst d = _
          by_cases hkj : k = j
          · subst hkj
            rw [hdst, hd]
            show upd σ.t d _ d = _
            simp [upd]
          · rcases hset k hk with h | hk
            · exact absurd h hkj
            · rw [hdst]
              cases hjd : dstOf ops j with
              | none => exact ha k d hk hd
              | some d' =>
                show upd σ.t d' _ d = _
                unfold upd
                rw [if_neg (fun e => hkj (hok.one hd (by rw [hjd, e])))]
                exact ha k d hk hd
        · intro i hi
          show putT σ.t (val.getD j .any) o.dst i = _
          rw [hdst]
          have hold := hb i fun k hk => hi k (hseto k hk)
          cases hjd : dstOf ops j with
          | none => exact hold
          | some d' =>
            show upd σ.t d' _ i = _
            unfold upd
            rw [if_neg (fun e => hi j hsetj (by rw [hjd, e]))]
            exact hold
      have hstep : if Region.wanted o (yielded ops a.tmps) = true then o.wp E.P a w (wpAny E.P .any ops Q fuel (listed.setIfInBounds j true)) Q else wpAny E.P .any ops Q fuel (listed.setIfInBounds j true) (a.put o.dst undef) w := by
        rcases hfact with hfact | ⟨ty, d, l, ti, z, hop, hg, hd, hb1, hT, hz, hl2, hv, hh2⟩
        · have hdoes : adoes E O ops σ o = some (val.getD j .any, hs.getD s' []) := by
            obtain ⟨t, m, hh'⟩ := σ
            simp only at hh hn hsame
            subst hh hn
            rw [adoes_congr2 hsame]
            exact hfact
          have hput : put σ o.dst (val.getD j .any) (hs.getD s' []) = some ⟨putT σ.t (val.getD j .any) o.dst, n, hs.getD s' []⟩ := by
            unfold put putT
            cases hd : o.dst with
            | none => simp only [hn]
            | some d =>
              have hdn := (hok.dst (by rw [← hdst, hd] : dstOf ops j = some d)).1
              simp only [hn, if_pos hdn]
          have hs1 : astep E O ops σ o = some ⟨putT σ.t (val.getD j .any) o.dst, n, hs.getD s' []⟩ := by
            rw [astep_does, hdoes]
            exact hput
          exact astep_sound hS hs1 hR next
        · have hdn := (hok.dst (by rw [← hdst, hd] : dstOf ops j = some d)).1
          simp only at hl2 hh2
          refine holdFill_sound hop hg hd hb1 hT hz (by rw [hh]; exact hl2) (by rw [hn]; exact hdn) hR fun a' w' hR' => next a' w' ?_
          rw [hv, hd, hh2, ← hh, ← hn]
          exact hR'
      unfold wpOp
      rw [ho]
      simp only
      split
      · rename_i hw
        rw [if_pos hw] at hstep
        exact .inl hstep
      · rename_i hw
        rw [if_neg hw] at hstep
        exact hstep

/-- A region that draws its order: the memory after every set of operations with effects. -/
theorem AW.dregW (hP : E.P.follows .mixedOrders = true) (hS : Sound E O) {id n : Nat} {L0 : List (Nat × AV)} {h : List AObj} {ops : Array Oper} {Q : Exit → St → Prop} (eff : List Nat) (S : List (List Nat)) (fin : Nat) (F : List (Nat × Nat × Nat)) (val : List AV) (hs : List (List AObj)) (LF : List (Nat × AV))
    (hLF : pairs ops val ++ L0 = LF) (hok : planOK2 ops n eff S fin F = true) (h0 : hs.getD 0 [] = h) (hf : Facts2 E O ops (sl LF) n val hs F) (L : List (Nat × AV)) (h' : List AObj) (hL : keeps (sl LF) L) (hh : hs.getD fin [] = h') (hQ : Q .normal ⟨sl L, n, h'⟩) :
    AW E k (.region id ops true) Q ⟨sl L0, n, h⟩ := by
  subst hLF
  intro γ₀ H₀ Φ₀ w₀ a w hl hR
  refine wp_region_any hP ?_
  have htodo : todo ops (Array.replicate ops.size false) = List.range ops.size := by
    refine List.filter_eq_self.2 fun i hi => ?_
    simp [List.mem_range.1 hi]
  have hnone : ∀ i, (Array.replicate ops.size false).getD i false = false := by
    intro i
    by_cases hi : i < ops.size
    · simp [hi]
    · simp [hi]
  have hpl := planOK2_spec hok
  refine drawnW_sound hS hpl hf (γ₀ := γ₀) (H₀ := H₀) (Φ₀ := Φ₀) (w₀ := w₀) (fun a' w' hR' => ?_) ops.size _ ⟨sl L0, n, h⟩ a _ 0 (by simp) (by rw [htodo]; simp) (fun j hj => by rw [hnone] at hj; cases hj) hpl.pos (fun e he => by rw [hnone, hpl.first]; rfl) h0.symm rfl
    (fun j d hj => by rw [hnone] at hj; cases hj) (fun i _ => rfl) ?_
  · have hw : Weak E k ⟨sl (pairs ops val ++ L0), n, hs.getD fin []⟩ ⟨sl L, n, hs.getD fin []⟩ := Weak.forget (keeps_sl hL)
    have hR3 := hw γ₀ H₀ Φ₀ w₀ a' w' hl hR'
    rw [hh] at hR3
    exact ⟨_, hR3, hQ⟩
  · obtain ⟨⟨γ, Φ, hok', hs'⟩, hsz, hd, h0'⟩ := hR
    have hk : Ok E γ h Φ w γ h Φ { w with drawn := w.drawn + 1 } := hok'.inv.grow (fun _ _ => rfl) (Nat.le_refl _) rfl rfl rfl (fun _ _ h => h) (fun _ _ h _ => h) hok'.inv.phi
    exact ⟨⟨γ, Φ, hok'.trans hk, fun i => (hs' i).mono hk.evo⟩, hsz, hd, h0'⟩

theorem Facts2.nil {ops : Array Oper} {t : Nat → AV} {n : Nat} {val : List AV} {hs : List (List AObj)} : Facts2 E O ops t n val hs [] := trivial

theorem Facts2.does {ops : Array Oper} {t : Nat → AV} {n : Nat} {val : List AV} {hs : List (List AObj)} {j s s' : Nat} {F : List (Nat × Nat × Nat)} {v : AV} {h1 h2 : List AObj} (hv : val.getD j .any = v) (e1 : hs.getD s [] = h1) (e2 : hs.getD s' [] = h2)
    (h : ((ops[j]?).bind fun o => adoes E O ops ⟨t, n, h1⟩ o) = some (v, h2)) (hr : Facts2 E O ops t n val hs F) : Facts2 E O ops t n val hs ((j, s, s') :: F) :=
  ⟨fun o' ho' => .inl (by
    rw [ho', Option.bind_some] at h
    rw [e1, e2, hv]
    exact h), hr⟩

theorem Facts2.fill {ops : Array Oper} {t : Nat → AV} {n : Nat} {val : List AV} {hs : List (List AObj)} {j s s' : Nat} {F : List (Nat × Nat × Nat)} {h1 : List AObj} {o : Oper} {ty d l : Nat} {ti : TI} {z : List PV} (e1 : hs.getD s [] = h1) (ho : ops[j]? = some o) (hop : o.op = .alloc ty) (hg : o.guard = none) (hd : o.dst = some d)
    (hb : E.bT ≠ some ty) (hT : E.T ty = some ti) (hz : ti.zero = some z) (hv : val.getD j .any = .ref l 0) (hl : h1[l]? = some (.hold d)) (he : hs.getD s' [] = h1.set l (.var (z.map zAV))) (hr : Facts2 E O ops t n val hs F) : Facts2 E O ops t n val hs ((j, s, s') :: F) :=
  ⟨fun o' ho' => .inr (by
    rw [ho] at ho'
    cases ho'
    exact ⟨ty, d, l, ti, z, hop, hg, hd, hb, hT, hz, by rw [e1]; exact hl, hv, by rw [e1]; exact he⟩), hr⟩

end
end Go.Abs
