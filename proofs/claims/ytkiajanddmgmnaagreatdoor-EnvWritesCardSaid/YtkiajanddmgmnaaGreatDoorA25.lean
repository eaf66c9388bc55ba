import Derived.Test.YtkiajanddmgmnaaGreatDoorA24
import Derived.LaidMore
import Derived.Lay
import Derived.Carry
/- The abstract machine, part 25: from a law's run over pure values to its row. -/
namespace Go.Abs
open Go.RowKit Go.ChangeShapes Go.WideShapes

section
variable {H : Type} {enc : TypeId × Value → H}

/-- A law that is good over pure values, called in a world. -/
theorem Good.calls {E : Env} {f : FuncId} {ps : List PV} (hg : Good E f (ps.map AV.pv) [] [.pv (.bool true)] []) {W : World} {vs : List Value} (hgi : E.GI W) (hgn : E.gN ≤ W.heap.size) (hl : vs.length = ps.length) (hr : ∀ (i : Nat) v p, vs[i]? = some v → ps[i]? = some p → Rep (Low W) W v p) :
    Calls E.P f ⟨vs⟩ W fun e W' => e = .returned (.bool true) ∧ Below W.heap.size W W' := by
  have hI : OInv E [] [] (Low W) W := ⟨rfl, fun l o g h => by simp at h, fun i j gi gj h => by simp at h, fun i g h => by simp at h, fun b k h => h, hgi, hgn⟩
  refine (hg W (Low W) [] vs hI (by simpa using hl) (fun i v a hv ha => ?_)).mono fun e W' ⟨us, γ', Φ', he, hok, hul, hur⟩ => ?_
  · rw [List.getElem?_map] at ha
    obtain ⟨p, hp, rfl⟩ := Option.map_eq_some_iff.1 ha
    exact .pv (hr i v p hv hp)
  · match us, hul with
    | [u], _ =>
      have hu := hur 0 u _ rfl rfl
      have hv := rep_bool (arel_pv hu)
      subst hv
      refine ⟨he, ⟨hok.since.os, hok.since.tape, hok.since.output, hok.since.size, fun k hk => ?_⟩⟩
      exact hok.since.foreign k hk (fun i g h => by simp at h)

theorem trodAll_reps {P : Program} {w : World} {r : Reach} {b : Nat} (TY : TypeId → PV → Prop) : ∀ {ts : List TypeId} {vs : List Value} {ds : List (DataW H)} {ps : List MemPlace},
    (∀ t ∈ ts, ∀ (v : Value) (d : DataW H) (ps : List MemPlace), Value.okWide P w r b t v → DataW.Trod enc P w 0 (fun _ => true) true t v d ps → ∃ p, Rep (Low w) w v p ∧ TY t p) → (∀ (i : Nat) t v, ts[i]? = some t → vs[i]? = some v → Value.okWide P w r b t v) →
    DataW.TrodAll enc P w 0 (fun _ => true) true ts vs ds ps → ∃ qs : List PV, vs.length = qs.length ∧ qs.length = ts.length ∧ ds.length = ts.length ∧ (∀ (i : Nat) v p, vs[i]? = some v → qs[i]? = some p → Rep (Low w) w v p) ∧ ∀ (i : Nat) t p, ts[i]? = some t → qs[i]? = some p → TY t p
  | [], [], [], _, _, _, _ => ⟨[], rfl, rfl, rfl, fun i v p h => by simp at h, fun i t p h => by simp at h⟩
  | t :: ts, v :: vs, d :: ds, ps, hs, hv, h => by
    obtain ⟨p, q, h1, h2, _⟩ := h
    obtain ⟨x, hx1, hx2⟩ := hs t (by simp) v d p (hv 0 t v rfl rfl) h1
    obtain ⟨qs, e1, e2, e3, e4, e5⟩ := trodAll_reps TY (fun t ht => hs t (by simp [ht])) (fun i t v ht hv' => hv (i + 1) t v (by simpa using ht) (by simpa using hv')) h2
    refine ⟨x :: qs, by simp [e1], by simp [e2], by simp [e3], fun i v p hv hp => ?_, fun i t p ht hp => ?_⟩
    · cases i with
      | zero => simp only [List.getElem?_cons_zero, Option.some.injEq] at hv hp; subst hv hp; exact hx1
      | succ i => rw [List.getElem?_cons_succ] at hv hp; exact e4 i v p hv hp
    · cases i with
      | zero => simp only [List.getElem?_cons_zero, Option.some.injEq] at ht hp; subst ht hp; exact hx2
      | succ i => rw [List.getElem?_cons_succ] at ht hp; exact e5 i t p ht hp
  | [], [], _ :: _, _, _, _, h => h.elim
  | [], _ :: _, _, _, _, _, h => h.elim
  | _ :: _, [], _, _, _, _, h => h.elim
  | _ :: _, _ :: _, [], _, _, _, h => h.elim

theorem trodAll_stays {P : Program} (hl : laidOutB P = true) {W W' : World} {sp : Nat → Bool} : ∀ {ts : List TypeId} {vs : List Value} {ds : List (DataW H)} {ps : List MemPlace}, (∀ t ∈ ts, P.readableRec t = true ∧ t < P.types.size) →
    DataW.TrodAll enc P W 0 (fun _ => true) true ts vs ds ps → (∀ p ∈ ps, W.sameAt W' p) → (∀ p ∈ ps, sp p.block = true) → DataW.TrodAll enc P W' 0 sp true ts vs ds ps
  | [], [], [], _, _, h, _, _ => h
  | t :: ts, v :: vs, d :: ds, ps, hs, h, h1, h2 => by
    obtain ⟨p, q, ha, hb, rfl⟩ := h
    exact ⟨p, q, WideElems.Trod_stays hl (hs t (by simp)).1 (hs t (by simp)).2 ha (fun x hx => h1 x (by simp [hx])) (fun x hx => h2 x (by simp [hx])),
      trodAll_stays hl (fun t ht => hs t (by simp [ht])) hb (fun x hx => h1 x (by simp [hx])) (fun x hx => h2 x (by simp [hx])), rfl⟩
  | [], [], _ :: _, _, _, h, _, _ => h.elim
  | [], _ :: _, _, _, _, h, _, _ => h.elim
  | _ :: _, [], _, _, _, h, _, _ => h.elim
  | _ :: _, _ :: _, [], _, _, h, _, _ => h.elim

/-- The row's last step where nothing below the old heap has turned. -/
theorem post_below {P : Program} {f : Func} {s : ChangeSpec} {apart fresh handsOn again : Bool} {W W' : World} {args : Array Value} {v : Value} {ds gs : List (DataW H)} {before pa pv : List MemPlace}
    (hW : DataW.Whole enc P f.params.toList s.vars apart W args.toList ds gs before)
    (hres : ∀ (b : Nat) (sp : Nat → Bool) (hd : Bool), DataW.TrodAll enc P W' b sp hd f.resultTypes.toList (v.resultList f.resultTypes.size) (s.fn H (ds ++ gs)).results [])
    (hargs : ∀ sp : Nat → Bool, (∀ p ∈ before, sp p.block = true) → DataW.TrodAll enc P W' 0 sp true f.params.toList args.toList (s.fn H (ds ++ gs)).args pa)
    (hvars : ∀ sp : Nat → Bool, (∀ p ∈ before, sp p.block = true) → DataW.TrodVars enc P W' sp s.vars (s.fn H (ds ++ gs)).vars pv)
    (hps : before = pa ++ pv) (hb : Below W.heap.size W W')
    (hok : ∀ (j : Nat) (t : TypeId) (r : Value), f.resultTypes[j]? = some t → (v.resultList f.resultTypes.size)[j]? = some r → Value.okWide P W' .any 0 t r) :
    s.post enc P f apart fresh handsOn again W args v W' := by
  have hlt : ∀ p ∈ before, p.block < W.heap.size := fun p hp => hW.lt p hp
  have hold : ∀ p ∈ before, (fun b => decide (b < W.heap.size)) p.block = true := fun p hp => by simpa using hlt p hp
  refine ⟨ds, gs, before, [], pa, pv, hW, hres _ _ _, hargs _ hold, hvars _ hold, World.keptBut_mono (fun p hp => ⟨hp, ?_⟩) (hb.frame (· ∈ before)), fun _ => ?_⟩
  · rw [hps, List.mem_append] at hp
    exact Or.inr hp
  · obtain ⟨_, _, _, _, _, hz, hn⟩ := hW
    refine ⟨hok, _, _, ([] ++ pa) ++ pv, ⟨[] ++ pa, pv, trodAll_append (hargs _ (fun _ _ => rfl)) (hres _ _ _), hvars _ (fun _ _ => rfl), rfl, ?_, ?_⟩, ?_⟩
    · intro b off hp
      have hin : MemPlace.cell b off ∈ before := by rw [hps]; simpa using hp
      rw [hb.frozen (hlt _ hin)]
      exact hz b off hin
    · intro ha
      have := hn ha
      rw [hps] at this
      simpa using this
    · intro p hp _
      rw [hps]
      simpa using hp

theorem liftedT {E : Env} {C : Checked} (hE : E.P = C.prog) {os : Os} {f : FuncId} {fn : Func} {s : ChangeSpec} {conds : List PathCond} {apart fresh handsOn again : Bool} {X : World → Array Value → Prop} (TY : TypeId → PV → Prop) {tb : TypeId}
    (own : ownKnob C.prog.godebug = none) (started : os.Started) (noInit : C.prog.inits.idxOf? f = none) (hfn : C.prog.funcs[f]? = some fn) (hlo : laidOutB C.prog = true)
    (hvars : s.vars = []) (hspec : ∀ ds : List (DataW H), ds.length = fn.params.size → s.fn H ds = { results := [.lit (.bool true)], args := ds })
    (hres : fn.resultTypes = #[tb]) (hub : C.prog.underlying tb = some .bool)
    (hT : ∀ t ∈ fn.params.toList, ∀ (w : World) (r : Reach) (b : Nat) (v : Value) (d : DataW H) (ps : List MemPlace), Value.okWide C.prog w r b t v → DataW.Trod enc C.prog w 0 (fun _ => true) true t v d ps → ∃ p, Rep (Low w) w v p ∧ TY t p)
    (hpar : fn.params.toList.all (fun t => C.prog.readableRec t && decide (t < C.prog.types.size)) = true)
    (hG : ∀ W : World, W.ShapedOpen C.prog → (∃ a, X W.memory a) → E.GI W ∧ E.gN ≤ W.heap.size)
    (hgood : ∀ ps : List PV, ps.length = fn.params.size → (∀ (i : Nat) t p, fn.params[i]? = some t → ps[i]? = some p → TY t p) → Good E f (ps.map AV.pv) [] [.pv (.bool true)] [])
    (witness : ∃ (w : World) (tape : Tape) (i : Input), w.os = os ∧ (w.forCall tape i).Shaped C.prog ∧ i.vars = [] ∧ Input.okWide C.prog (w.forCall tape i) .any w.heap.size f i ∧
      ((s.pre enc C.prog fn conds apart (w.forCall tape i).memory i.args ∧ X (w.forCall tape i).memory i.args) ∧ sizedMet enc C.prog fn (OpenSpec.ofChange s) apart (w.forCall tape i).memory i.args) ∧ ({} : Assume).holds C.prog (lone (Frame.enter C.prog f i.args .normal) [] (w.forCall tape i))) :
    ReturnsInHanded {} C os f .any (fun w args => (s.pre enc C.prog fn conds apart w args ∧ X w args) ∧ sizedMet enc C.prog fn (OpenSpec.ofChange s) apart w args) (s.post enc C.prog fn apart fresh handsOn again) := by
  refine returnsInHanded_of_calls own started noInit witness ?_
  intro w tape i _ hsh _ hok hpre _
  obtain ⟨_, _, _, fn', hfn', _, _, _, hsz, hval⟩ := hok
  have e : fn' = fn := Option.some.inj (hfn'.symm.trans hfn)
  subst e
  obtain ⟨⟨⟨ds, gs, before, hw, _⟩, hX⟩, _⟩ := hpre
  have hw' := DataW.Whole.of_heap (w' := w.forCall tape i) (by rfl) hw
  have hread : ∀ t ∈ fn'.params.toList, C.prog.readableRec t = true ∧ t < C.prog.types.size := fun t ht => by
    have := List.all_eq_true.1 hpar t ht
    rw [Bool.and_eq_true, decide_eq_true_eq] at this
    exact this
  have hw2 := hw'
  obtain ⟨p, q, hA, hV, rfl, _, _⟩ := hw'
  obtain ⟨qs, e1, e2, e3, e4, e5⟩ := trodAll_reps TY (fun t ht v d ps => hT t ht _ _ _ v d ps) (fun i t v ht hv => hval i t v (by simpa using ht) (by simpa using hv)) hA
  rw [hvars] at hV
  obtain ⟨hgs, hq⟩ : gs = [] ∧ q = [] := by
    cases gs with
    | nil => exact ⟨rfl, hV⟩
    | cons g gs => exact hV.elim
  subst hgs hq
  obtain ⟨hgi, hgn⟩ := hG _ hsh ⟨_, hX⟩
  have hcall := Good.calls (hgood qs (by simpa using e2) (fun i t p ht hp => e5 i t p (by simpa using ht) hp)) (W := w.forCall tape i) (vs := i.args.toList) hgi hgn e1 e4
  rw [hE] at hcall
  refine Calls.mono hcall fun e W' ⟨he, hb⟩ => ?_
  subst he
  have hlen : ds.length = fn'.params.size := by simpa using e3
  have hsp : s.fn H (ds ++ []) = { results := [.lit (.bool true)], args := ds } := by
    rw [List.append_nil]
    exact hspec ds hlen
  refine ChangeSpec.post_blind (post_below (pa := p) (pv := []) hw2 (fun b sp hd => ?_) (fun sp hspb => ?_) (fun sp _ => ?_) rfl hb (ok_one hres rfl (okWide_bool_mk hub _)))
  · rw [hsp, hres]
    exact trodAll_mk1 (shut_bool hub _)
  · rw [hsp]
    refine trodAll_stays hlo hread hA (fun x hx => hb.same ?_) (fun x hx => hspb x (by simp [hx]))
    exact hw2.lt x (by simp [hx])
  · rw [hsp, hvars]
    exact rfl

theorem lifted {E : Env} {C : Checked} (hE : E.P = C.prog) {os : Os} {f : FuncId} {fn : Func} {s : ChangeSpec} {conds : List PathCond} {apart fresh handsOn again : Bool} {X : World → Array Value → Prop} (N : Nat) {tb : TypeId}
    (own : ownKnob C.prog.godebug = none) (started : os.Started) (noInit : C.prog.inits.idxOf? f = none) (hfn : C.prog.funcs[f]? = some fn) (hlo : laidOutB C.prog = true)
    (hvars : s.vars = []) (hspec : ∀ ds : List (DataW H), ds.length = fn.params.size → s.fn H ds = { results := [.lit (.bool true)], args := ds })
    (hres : fn.resultTypes = #[tb]) (hub : C.prog.underlying tb = some .bool)
    (hpar : fn.params.toList.all (fun t => supp C.prog N t && (C.prog.readableRec t && decide (t < C.prog.types.size))) = true)
    (hG : ∀ W : World, W.ShapedOpen C.prog → (∃ a, X W.memory a) → E.GI W ∧ E.gN ≤ W.heap.size)
    (hgood : ∀ ps : List PV, ps.length = fn.params.size → (∀ (i : Nat) t p, fn.params[i]? = some t → ps[i]? = some p → Typed C.prog N t p) → Good E f (ps.map AV.pv) [] [.pv (.bool true)] [])
    (witness : ∃ (w : World) (tape : Tape) (i : Input), w.os = os ∧ (w.forCall tape i).Shaped C.prog ∧ i.vars = [] ∧ Input.okWide C.prog (w.forCall tape i) .any w.heap.size f i ∧
      ((s.pre enc C.prog fn conds apart (w.forCall tape i).memory i.args ∧ X (w.forCall tape i).memory i.args) ∧ sizedMet enc C.prog fn (OpenSpec.ofChange s) apart (w.forCall tape i).memory i.args) ∧ ({} : Assume).holds C.prog (lone (Frame.enter C.prog f i.args .normal) [] (w.forCall tape i))) :
    ReturnsInHanded {} C os f .any (fun w args => (s.pre enc C.prog fn conds apart w args ∧ X w args) ∧ sizedMet enc C.prog fn (OpenSpec.ofChange s) apart w args) (s.post enc C.prog fn apart fresh handsOn again) :=
  liftedT hE (Typed C.prog N) own started noInit hfn hlo hvars hspec hres hub
    (fun t ht w r b v d ps hv h => param_rep (by
      have := List.all_eq_true.1 hpar t ht
      rw [Bool.and_eq_true] at this
      exact this.1) hv h)
    (List.all_eq_true.2 fun t ht => by
      have := List.all_eq_true.1 hpar t ht
      rw [Bool.and_eq_true] at this
      exact this.2) hG hgood witness

theorem liftedS {E : Env} {C : Checked} (hE : E.P = C.prog) {os : Os} {f : FuncId} {fn : Func} {s : ChangeSpec} {conds : List PathCond} {apart fresh handsOn again : Bool} {X : World → Array Value → Prop} (S : List TypeId) {tb : TypeId}
    (own : ownKnob C.prog.godebug = none) (started : os.Started) (noInit : C.prog.inits.idxOf? f = none) (hfn : C.prog.funcs[f]? = some fn) (hlo : laidOutB C.prog = true)
    (hvars : s.vars = []) (hspec : ∀ ds : List (DataW H), ds.length = fn.params.size → s.fn H ds = { results := [.lit (.bool true)], args := ds })
    (hres : fn.resultTypes = #[tb]) (hub : C.prog.underlying tb = some .bool)
    (hS : suppS C.prog S = true) (hpar : fn.params.toList.all (fun t => S.contains t && (C.prog.readableRec t && decide (t < C.prog.types.size))) = true)
    (hG : ∀ W : World, W.ShapedOpen C.prog → (∃ a, X W.memory a) → E.GI W ∧ E.gN ≤ W.heap.size)
    (hgood : ∀ ps : List PV, ps.length = fn.params.size → (∀ (i : Nat) t p, fn.params[i]? = some t → ps[i]? = some p → ∃ n, Typed C.prog n t p) → Good E f (ps.map AV.pv) [] [.pv (.bool true)] [])
    (witness : ∃ (w : World) (tape : Tape) (i : Input), w.os = os ∧ (w.forCall tape i).Shaped C.prog ∧ i.vars = [] ∧ Input.okWide C.prog (w.forCall tape i) .any w.heap.size f i ∧
      ((s.pre enc C.prog fn conds apart (w.forCall tape i).memory i.args ∧ X (w.forCall tape i).memory i.args) ∧ sizedMet enc C.prog fn (OpenSpec.ofChange s) apart (w.forCall tape i).memory i.args) ∧ ({} : Assume).holds C.prog (lone (Frame.enter C.prog f i.args .normal) [] (w.forCall tape i))) :
    ReturnsInHanded {} C os f .any (fun w args => (s.pre enc C.prog fn conds apart w args ∧ X w args) ∧ sizedMet enc C.prog fn (OpenSpec.ofChange s) apart w args) (s.post enc C.prog fn apart fresh handsOn again) :=
  liftedT hE (fun t p => ∃ n, Typed C.prog n t p) own started noInit hfn hlo hvars hspec hres hub
    (fun t ht w r b v d ps hv h => param_repS hS (by
      have := List.all_eq_true.1 hpar t ht
      rw [Bool.and_eq_true, List.contains_iff_mem] at this
      exact this.1) hv h)
    (List.all_eq_true.2 fun t ht => by
      have := List.all_eq_true.1 hpar t ht
      rw [Bool.and_eq_true] at this
      exact this.2) hG hgood witness

end
end Go.Abs
