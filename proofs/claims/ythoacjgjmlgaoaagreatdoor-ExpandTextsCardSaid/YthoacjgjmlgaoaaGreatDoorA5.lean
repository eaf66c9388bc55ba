/- The abstract machine, part 5: the quiet operations are sound, joined. -/
import Derived.Test.YthoacjgjmlgaoaaGreatDoorA4
namespace Go.Abs
open Go.RowKit

section
variable {E : Env} {γ : List Gh} {H : List AObj} {Φ : Nat → Nat → Prop} {w : World}

theorem guard_int (op : BinOp) (t : TypeId) (x y : Operand) (k k' : IntKind) (m n : Int) : (do eqGuard op t x y (.int k m) (.int k' n); binOp op t (.int k m) (.int k' n) : Sem Value).run E.P w = (binOp op t (.int k m) (.int k' n)).run E.P w := by
  simp [eqGuard_at_int]

theorem guard_str (op : BinOp) (t : TypeId) (x y : Operand) (a b : ByteArray) : (do eqGuard op t x y (.string a) (.string b); binOp op t (.string a) (.string b) : Sem Value).run E.P w = (Op.stringOp op a b).run E.P w := by
  simp only [eqGuard_at_string, bind, Sem.run_bind']
  cases op <;> rfl

theorem pbin_sound (op : BinOp) (t : TypeId) (x y : Operand) {a b : Value} {p q r : PV} (ha : Rep Φ w a p) (hb : Rep Φ w b q) (h : pbin op p q = some r) :
    ∃ u, (do eqGuard op t x y a b; binOp op t a b : Sem Value).run E.P w = .ok u w ∧ Rep Φ w u r := by
  cases ha with
  | int k m =>
    cases hb with
    | int k' n =>
      rw [guard_int]
      simp only [pbin] at h
      split at h
      · rename_i hk
        subst hk
        cases op with
        | quo =>
          simp only [Option.ite_none_left_eq_some, Option.some.injEq] at h
          obtain ⟨hz, rfl⟩ := h
          exact ⟨_, by simp [binOp, Op.intDiv, hz], .int _ _⟩
        | rem =>
          simp only [Option.ite_none_left_eq_some, Option.some.injEq] at h
          obtain ⟨hz, rfl⟩ := h
          exact ⟨_, by simp [binOp, Op.intDiv, hz], .int _ _⟩
        | shl =>
          simp only [Option.ite_none_left_eq_some, Option.some.injEq] at h
          obtain ⟨hz, rfl⟩ := h
          exact ⟨.int k (k.wrap (m * 2 ^ (min n.toNat k.bits))), by simp only [binOp, Op.shift, hz, if_false]; rfl, .int _ _⟩
        | shr =>
          simp only [Option.ite_none_left_eq_some, Option.some.injEq] at h
          obtain ⟨hz, rfl⟩ := h
          exact ⟨.int k (m.fdiv (2 ^ (min n.toNat k.bits))), by simp only [binOp, Op.shift, hz, if_false]; rfl, .int _ _⟩
        | _ =>
          simp only [Option.some.injEq] at h
          subst h
          first
            | exact ⟨_, by simp only [binOp, ne_eq, not_true, if_false]; rfl, .int _ _⟩
            | exact ⟨_, by simp only [binOp, ne_eq, not_true, if_false]; rfl, .bool _⟩
      · cases op with
        | shl =>
          simp only [Option.ite_none_left_eq_some, Option.some.injEq] at h
          obtain ⟨hz, rfl⟩ := h
          exact ⟨.int k (k.wrap (m * 2 ^ (min n.toNat k.bits))), by simp only [binOp, Op.shift, hz, if_false]; rfl, .int _ _⟩
        | shr =>
          simp only [Option.ite_none_left_eq_some, Option.some.injEq] at h
          obtain ⟨hz, rfl⟩ := h
          exact ⟨.int k (m.fdiv (2 ^ (min n.toNat k.bits))), by simp only [binOp, Op.shift, hz, if_false]; rfl, .int _ _⟩
        | _ => simp only [reduceCtorEq] at h
    | _ => simp [pbin] at h
  | str s =>
    cases hb with
    | str s' =>
      rw [guard_str]
      cases op with
      | add =>
        simp only [pbin, Option.ite_none_right_eq_some, Option.some.injEq] at h
        obtain ⟨hz, rfl⟩ := h
        exact ⟨_, run_string_add_sum w ⟨⟨s⟩⟩ ⟨⟨s'⟩⟩ hz, by rw [ByteArray.mk_append_mk]; exact .str _⟩
      | eql => simp only [pbin, Option.some.injEq] at h; subst h; exact ⟨.bool (s == s'), by simp only [Op.stringOp, ByteArray.toList_mk]; rfl, .bool _⟩
      | neq => simp only [pbin, Option.some.injEq] at h; subst h; exact ⟨.bool (!(s == s')), by simp only [Op.stringOp, ByteArray.toList_mk]; rfl, .bool _⟩
      | lss => simp only [pbin, Option.some.injEq] at h; subst h; exact ⟨.bool (Op.bytesLess s s'), by simp only [Op.stringOp, ByteArray.toList_mk]; rfl, .bool _⟩
      | leq => simp only [pbin, Option.some.injEq] at h; subst h; exact ⟨.bool (Op.bytesLess s s' || s == s'), by simp only [Op.stringOp, ByteArray.toList_mk]; rfl, .bool _⟩
      | gtr => simp only [pbin, Option.some.injEq] at h; subst h; exact ⟨.bool (!(Op.bytesLess s s' || s == s')), by simp only [Op.stringOp, ByteArray.toList_mk]; rfl, .bool _⟩
      | geq => simp only [pbin, Option.some.injEq] at h; subst h; exact ⟨.bool (!(Op.bytesLess s s')), by simp only [Op.stringOp, ByteArray.toList_mk]; rfl, .bool _⟩
      | _ => simp only [pbin, reduceCtorEq] at h
    | _ => simp [pbin] at h
  | _ => simp [pbin] at h

theorem run_eq_bool {t : TypeId} (hd : E.P.underlying t = some .bool) (x y : Operand) (a b : Bool) :
    (do eqGuard .eql t x y (.bool a) (.bool b); binOp .eql t (.bool a) (.bool b) : Sem Value).run E.P w = .ok (.bool (a == b)) w := by
  have h : ∀ d : Nat, (Op.equalIn (d + 1) t (.bool a) (.bool b)).run E.P w = .ok (a == b) w := fun d => by
    simp [Op.equalIn, run_underlying hd]
  simp only [eqGuard_at_bool, bind, Sem.run_bind', binOp]
  simp [Op.equal, Op.maxDepth, h 9999]

theorem run_ne_bool {t : TypeId} (hd : E.P.underlying t = some .bool) (x y : Operand) (a b : Bool) :
    (do eqGuard .neq t x y (.bool a) (.bool b); binOp .neq t (.bool a) (.bool b) : Sem Value).run E.P w = .ok (.bool (!(a == b))) w := by
  have h : ∀ d : Nat, (Op.equalIn (d + 1) t (.bool a) (.bool b)).run E.P w = .ok (a == b) w := fun d => by
    simp [Op.equalIn, run_underlying hd]
  simp only [eqGuard_at_bool, bind, Sem.run_bind', binOp]
  simp [Op.equal, Op.maxDepth, h 9999]

theorem qbin_sound (op : BinOp) (t : TypeId) (x y : Operand) {a b : Value} {p q r : AV} (ha : ARel γ H Φ w a p) (hb : ARel γ H Φ w b q) (h : qbin E.T op t p q = some r) :
    ∃ u, (do eqGuard op t x y a b; binOp op t a b : Sem Value).run E.P w = .ok u w ∧ ARel γ H Φ w u r := by
  have gen : ∀ p' q', p = .pv p' → q = .pv q' → (pbin op p' q').map AV.pv = some r → ∃ u, (do eqGuard op t x y a b; binOp op t a b : Sem Value).run E.P w = .ok u w ∧ ARel γ H Φ w u r := by
    intro p' q' hp hq hr
    subst hp; subst hq
    obtain ⟨r', hr', rfl⟩ := Option.map_eq_some_iff.1 hr
    obtain ⟨u, hu, hrep⟩ := pbin_sound (E := E) op t x y (arel_pv ha) (arel_pv hb) hr'
    exact ⟨u, hu, .pv hrep⟩
  unfold qbin at h
  split at h
  · rename_i a' b'
    have hra := arel_pv ha
    have hrb := arel_pv hb
    cases hra
    cases hrb
    split at h
    · rename_i hT
      unfold isBoolT at hT
      split at hT
      · rename_i hTt
        obtain ⟨d, hd, hk⟩ := (E.hT _ _ hTt).und
        have hdd := tk_bool hk
        rw [hdd] at hd
        cases op with
        | eql =>
          simp only [Option.some.injEq] at h
          subst h
          exact ⟨_, run_eq_bool hd x y a' b', .pv (.bool _)⟩
        | neq =>
          simp only [Option.some.injEq] at h
          subst h
          exact ⟨_, run_ne_bool hd x y a' b', .pv (.bool _)⟩
        | _ => simp at h
      · cases hT
    · cases h
  · exact gen _ _ rfl rfl h
  · cases h

theorem run_eq_nil {t : TypeId} {ms : Array (String × TypeId)} (hd : E.P.underlying t = some (.interface ms)) (x : Operand) :
    (do eqGuard .eql t x (.const .nilIface) .nilIface .nilIface; binOp .eql t .nilIface .nilIface : Sem Value).run E.P w = .ok (.bool true) w := by
  have h : ∀ d : Nat, (Op.equalIn (d + 1) t .nilIface .nilIface).run E.P w = .ok true w := fun d => by
    simp [Op.equalIn, run_underlying hd]
  simp only [eqGuard, bind, Sem.run_bind', binOp]
  simp [Op.equal, Op.maxDepth, h 9999]

theorem run_ne_nil {t : TypeId} {ms : Array (String × TypeId)} (hd : E.P.underlying t = some (.interface ms)) (x : Operand) :
    (do eqGuard .neq t x (.const .nilIface) .nilIface .nilIface; binOp .neq t .nilIface .nilIface : Sem Value).run E.P w = .ok (.bool false) w := by
  have h : ∀ d : Nat, (Op.equalIn (d + 1) t .nilIface .nilIface).run E.P w = .ok true w := fun d => by
    simp [Op.equalIn, run_underlying hd]
  simp only [eqGuard, bind, Sem.run_bind', binOp]
  simp [Op.equal, Op.maxDepth, h 9999]

theorem run_eq_ifc {t : TypeId} {ms : Array (String × TypeId)} (hd : E.P.underlying t = some (.interface ms)) (x : Operand) (tx : TypeId) (v : Value) :
    (do eqGuard .eql t x (.const .nilIface) (.iface tx v) .nilIface; binOp .eql t (.iface tx v) .nilIface : Sem Value).run E.P w = .ok (.bool false) w := by
  have h : ∀ d : Nat, (Op.equalIn (d + 1) t (.iface tx v) .nilIface).run E.P w = .ok false w := fun d => by
    simp [Op.equalIn, run_underlying hd]
  simp only [eqGuard, bind, Sem.run_bind', binOp]
  simp [Op.equal, Op.maxDepth, h 9999]

theorem run_ne_ifc {t : TypeId} {ms : Array (String × TypeId)} (hd : E.P.underlying t = some (.interface ms)) (x : Operand) (tx : TypeId) (v : Value) :
    (do eqGuard .neq t x (.const .nilIface) (.iface tx v) .nilIface; binOp .neq t (.iface tx v) .nilIface : Sem Value).run E.P w = .ok (.bool true) w := by
  have h : ∀ d : Nat, (Op.equalIn (d + 1) t (.iface tx v) .nilIface).run E.P w = .ok false w := fun d => by
    simp [Op.equalIn, run_underlying hd]
  simp only [eqGuard, bind, Sem.run_bind', binOp]
  simp [Op.equal, Op.maxDepth, h 9999]

theorem qnil2_sound (op : BinOp) (t : TypeId) (x : Operand) {a : Value} {p r : AV} (ha : ARel γ H Φ w a p) (h : qnil2 E.T op t p = some r) :
    ∃ u, (do eqGuard op t x (.const .nilIface) a .nilIface; binOp op t a .nilIface : Sem Value).run E.P w = .ok u w ∧ ARel γ H Φ w u r := by
  unfold qnil2 at h
  split at h
  · have hra := arel_pv ha
    cases hra
    split at h
    · rename_i hT
      obtain ⟨d, hd, hk⟩ := (E.hT _ _ hT).und
      obtain ⟨ms, rfl⟩ := tk_iface hk
      simp only [Option.some.injEq] at h
      subst h
      exact ⟨_, run_eq_nil hd x, .pv (.bool _)⟩
    · rename_i hT
      obtain ⟨d, hd, hk⟩ := (E.hT _ _ hT).und
      obtain ⟨ms, rfl⟩ := tk_iface hk
      simp only [Option.some.injEq] at h
      subst h
      exact ⟨_, run_ne_nil hd x, .pv (.bool _)⟩
    · cases h
  · have hra := arel_pv ha
    cases hra
    split at h
    · rename_i hT
      obtain ⟨d, hd, hk⟩ := (E.hT _ _ hT).und
      obtain ⟨ms, rfl⟩ := tk_iface hk
      simp only [Option.some.injEq] at h
      subst h
      exact ⟨_, run_eq_ifc hd x _ _, .pv (.bool _)⟩
    · rename_i hT
      obtain ⟨d, hd, hk⟩ := (E.hT _ _ hT).und
      obtain ⟨ms, rfl⟩ := tk_iface hk
      simp only [Option.some.injEq] at h
      subst h
      exact ⟨_, run_ne_ifc hd x _ _, .pv (.bool _)⟩
    · cases h
  · cases h

theorem isNil_eq {y : Operand} (h : isNil y = true) : y = .const .nilIface := by
  unfold isNil at h
  split at h
  · rfl
  · cases h

theorem qun_sound (op : UnOp) {a : Value} {p r : AV} (ha : ARel γ H Φ w a p) (h : qun op p = some r) :
    ∃ u, (Op.unary op a).run E.P w = .ok u w ∧ ARel γ H Φ w u r := by
  unfold qun at h
  split at h
  · have hra := arel_pv ha
    cases hra
    cases op <;> simp at h
    subst h
    exact ⟨_, rfl, .pv (.bool _)⟩
  · have hra := arel_pv ha
    cases hra
    cases op <;> simp only [reduceCtorEq, Option.some.injEq] at h
    subst h
    exact ⟨_, rfl, .pv (.int _ _)⟩
  · cases h

theorem qfieldAddr_sound {t : TypeId} {f : Nat} {a : Value} {x r : AV} (ha : ARel γ H Φ w a x) (h : qfieldAddr E.T t f x = some r) :
    ∃ u, (Instr.fieldAt t a f).run E.P w = .ok u w ∧ ARel γ H Φ w u r := by
  unfold qfieldAddr at h
  split at h
  · rename_i fs _ _ _ hT
    split at h
    · rename_i off sz hf
      split at h
      · cases h
      · rename_i hz
        obtain ⟨d, hd, hk⟩ := (E.hT _ _ hT).und
        obtain ⟨fields, rfl, hsize, hfs⟩ := tk_strct hk
        have hfl : f < fields.size := by
          have := (List.getElem?_eq_some_iff.1 hf).1
          omega
        obtain ⟨hoff, fi, hfi, hfsz⟩ := hfs f fields[f] (off, sz) (Array.getElem?_eq_getElem hfl) hf
        have run : ∀ b o : Nat, (Instr.fieldAt t (.pointer (some ⟨b, o, none⟩)) f).run E.P w = .ok (.pointer (some ⟨b, o + off, none⟩)) w := by
          intro b o
          have h0 : fi.size ≠ 0 := by
            simp only at hfsz
            omega
          have hof : fields[f].offset = off := hoff
          simp [Instr.fieldAt, run_underlying hd, Array.getElem?_eq_getElem hfl, Instr.sureAddr, fieldPlace, run_sizeOf hfi, h0, hof, Addr.add_lit]
        cases ha with
        | ref b l o hg =>
          simp only [Option.some.injEq] at h
          subst h
          exact ⟨_, run _ _, .ref b l _ hg⟩
        | pptr b o cs vs h1 hcell hrep =>
          simp only [Option.some.injEq] at h
          subst h
          refine ⟨_, run _ _, .pptr b (o + off) _ (fun k => vs (off + k)) (fun c hc => h1 c (List.mem_of_mem_drop hc)) (fun k hk => ?_) (fun k c hc => ?_)⟩
          · rw [List.length_drop] at hk
            rw [Nat.add_assoc]
            exact hcell (off + k) (by omega)
          · rw [List.getElem?_drop] at hc
            exact hrep (off + k) c hc
        | vptr b o' l n i o e sz' xs fz hrow hn hcur =>
          simp only [Option.some.injEq] at h
          subst h
          exact ⟨_, run _ _, .vptr b _ l n i _ e sz' xs fz hrow hn (fun hx => by
            obtain ⟨cap, hg, ho⟩ := hcur hx
            exact ⟨cap, hg, by omega⟩)⟩
        | any => simp at h
        | pv => simp at h
        | vec => simp at h
        | mref => simp at h
        | nils => simp at h
        | full => simp at h
        | tup => simp at h
        | agg => simp at h
        | fn => simp at h
    · cases h
  · cases h

end
end Go.Abs
