import Derived.Test.YtkiajanddmgmnaaGreatDoorA22
/- The abstract machine, part 23: slots as lists, rules for the symbolic run. -/
namespace Go.Abs
open Go.RowKit

def sl : List (Nat × AV) → Nat → AV
  | [], _ => .any
  | (j, v) :: r, i => if i = j then v else sl r i

theorem sl_nil (i : Nat) : sl [] i = .any := rfl
theorem sl_cons (j : Nat) (v : AV) (r : List (Nat × AV)) (i : Nat) : sl ((j, v) :: r) i = if i = j then v else sl r i := rfl
theorem upd_sl (r : List (Nat × AV)) (i : Nat) (v : AV) : upd (sl r) i v = sl ((i, v) :: r) := rfl

theorem entryT_0 : entryT [] = sl [] := by
  funext i
  simp [entryT, sl]

def enum : Nat → List AV → List (Nat × AV)
  | _, [] => []
  | n, a :: r => (n, a) :: enum (n + 1) r

theorem sl_enum : ∀ (args : List AV) (n i : Nat), sl (enum n args) (n + i) = args.getD i .any
  | [], n, i => by simp [enum, sl]
  | a :: r, n, 0 => by simp [enum, sl]
  | a :: r, n, i + 1 => by
    have h := sl_enum r (n + 1) i
    simp only [enum, sl]
    rw [if_neg (by omega)]
    simpa [Nat.add_comm, Nat.add_left_comm, Nat.add_assoc] using h

theorem entryT_sl (args : List AV) : entryT args = sl (enum 0 args) := by
  funext i
  have h := sl_enum args 0 i
  simpa [entryT] using h.symm

def keeps (t : Nat → AV) : List (Nat × AV) → Prop
  | [] => True
  | (j, v) :: r => t j = v ∧ keeps t r

theorem keeps_nil (t : Nat → AV) : keeps t [] = True := rfl
theorem keeps_cons (t : Nat → AV) (j : Nat) (v : AV) (r : List (Nat × AV)) : keeps t ((j, v) :: r) = (t j = v ∧ keeps t r) := rfl

theorem keeps_sl {t : Nat → AV} : ∀ {L : List (Nat × AV)}, keeps t L → ∀ i, sl L i = t i ∨ sl L i = .any
  | [], _, i => .inr rfl
  | (j, v) :: r, h, i => by
    simp only [keeps] at h
    simp only [sl]
    split
    · rename_i hi
      subst hi
      exact .inl h.1.symm
    · exact keeps_sl h.2 i

section
variable {E : Env} {O : Orc} {σ σ' : St} {k : Nat} {Q : Exit → St → Prop}

theorem put_n {d : Option Nat} {v : AV} {h : List AObj} (hp : put σ d v h = some σ') : σ'.n = σ.n := by
  unfold put at hp
  split at hp
  · simp only [Option.some.injEq] at hp
    subst hp
    rfl
  · split at hp
    · simp only [Option.some.injEq] at hp
      subst hp
      rfl
    · cases hp

theorem astep_n {ops : Array Oper} {o : Oper} (h : astep E O ops σ o = some σ') : σ'.n = σ.n := by
  unfold astep at h
  split at h
  · obtain ⟨r, _, hp⟩ := Option.bind_eq_some_iff.1 h
    exact put_n hp
  · split at h
    · split at h
      · split at h
        · obtain ⟨r, _, hp⟩ := Option.bind_eq_some_iff.1 h
          exact put_n hp
        · exact put_n h
      · exact put_n h
      · cases h
    · cases h

theorem arun_n {ops : Array Oper} : ∀ {l : List Oper} {σ : St}, arun E O ops l σ = some σ' → σ'.n = σ.n
  | [], σ, h => by
    simp only [arun, Option.some.injEq] at h
    subst h
    rfl
  | o :: l, σ, h => by
    obtain ⟨σ1, h1, h2⟩ := Option.bind_eq_some_iff.1 h
    exact (arun_n h2).trans (astep_n h1)

/-- What the run of a region leaves. -/
def Leaves (L : List (Nat × AV)) (h' : List AObj) : Option St → Prop
  | some σ => keeps σ.t L ∧ σ.h = h'
  | none => False

theorem leaves_some (L : List (Nat × AV)) (h' : List AObj) (σ : St) : Leaves L h' (some σ) = (keeps σ.t L ∧ σ.h = h') := rfl

theorem AW.reg (hS : Sound E O) {id n : Nat} {t : Nat → AV} {h : List AObj} {ops : Array Oper} (L : List (Nat × AV)) (h' : List AObj) (hr : Leaves L h' (arun E O ops ops.toList ⟨t, n, h⟩)) (hQ : Q .normal ⟨sl L, n, h'⟩) : AW E k (.region id ops false) Q ⟨t, n, h⟩ := by
  generalize hx : arun E O ops ops.toList ⟨t, n, h⟩ = x at hr
  cases x with
  | none => exact hr.elim
  | some σ' =>
    have hn := arun_n hx
    obtain ⟨h1, h2⟩ := hr
    have hreg : AW E k (.region id ops false) (fun e σ'' => e = .normal ∧ σ'' = σ') ⟨t, n, h⟩ := AW.region hS hx ⟨rfl, rfl⟩
    intro γ₀ H₀ Φ₀ w₀ a w hl hR
    refine wp_mono (hreg γ₀ H₀ Φ₀ w₀ a w hl hR) (fun e a' w' ⟨σ2, hR2, he, hσ⟩ => ?_)
    subst he hσ
    have hw : Weak E k σ2 ⟨sl L, σ2.n, σ2.h⟩ := Weak.forget (keeps_sl h1)
    have hR3 := hw γ₀ H₀ Φ₀ w₀ a' w' hl hR2
    rw [hn, h2] at hR3
    exact ⟨_, hR3, hQ⟩

theorem AW.dreg (hP : E.P.follows .mixedOrders = true) (hS : Sound E O) {id n : Nat} {t : Nat → AV} {h : List AObj} {ops : Array Oper} (hok : orderOK O.pf ops = true) (L : List (Nat × AV)) (h' : List AObj) (hr : Leaves L h' (arun E O ops ops.toList ⟨t, n, h⟩)) (hQ : Q .normal ⟨sl L, n, h'⟩) : AW E k (.region id ops true) Q ⟨t, n, h⟩ := by
  generalize hx : arun E O ops ops.toList ⟨t, n, h⟩ = x at hr
  cases x with
  | none => exact hr.elim
  | some σ' =>
    have hn := arun_n hx
    obtain ⟨h1, h2⟩ := hr
    have hreg : AW E k (.region id ops true) (fun e σ'' => e = .normal ∧ σ'' = σ') ⟨t, n, h⟩ := AW.drawn hP hS hok hx ⟨rfl, rfl⟩
    intro γ₀ H₀ Φ₀ w₀ a w hl hR
    refine wp_mono (hreg γ₀ H₀ Φ₀ w₀ a w hl hR) (fun e a' w' ⟨σ2, hR2, he, hσ⟩ => ?_)
    subst he hσ
    have hw : Weak E k σ2 ⟨sl L, σ2.n, σ2.h⟩ := Weak.forget (keeps_sl h1)
    have hR3 := hw γ₀ H₀ Φ₀ w₀ a' w' hl hR2
    rw [hn, h2] at hR3
    exact ⟨_, hR3, hQ⟩

theorem AW.dregB (hP : E.P.follows .mixedOrders = true) (hS : Sound E O) {id n : Nat} {t : Nat → AV} {h : List AObj} {ops : Array Oper} (B : Bases) (hB : (B.all fun p => baseB (t p.1) p.2) = true) (hok : orderOKB O.pf B ops = true) (L : List (Nat × AV)) (h' : List AObj) (hr : Leaves L h' (arun E O ops ops.toList ⟨t, n, h⟩)) (hQ : Q .normal ⟨sl L, n, h'⟩) : AW E k (.region id ops true) Q ⟨t, n, h⟩ := by
  generalize hx : arun E O ops ops.toList ⟨t, n, h⟩ = x at hr
  cases x with
  | none => exact hr.elim
  | some σ' =>
    have hn := arun_n hx
    obtain ⟨h1, h2⟩ := hr
    have hreg : AW E k (.region id ops true) (fun e σ'' => e = .normal ∧ σ'' = σ') ⟨t, n, h⟩ := AW.drawnB hP hS hok (fun p hp => List.all_eq_true.1 hB p hp) hx ⟨rfl, rfl⟩
    intro γ₀ H₀ Φ₀ w₀ a w hl hR
    refine wp_mono (hreg γ₀ H₀ Φ₀ w₀ a w hl hR) (fun e a' w' ⟨σ2, hR2, he, hσ⟩ => ?_)
    subst he hσ
    have hw : Weak E k σ2 ⟨sl L, σ2.n, σ2.h⟩ := Weak.forget (keeps_sl h1)
    have hR3 := hw γ₀ H₀ Φ₀ w₀ a' w' hl hR2
    rw [hn, h2] at hR3
    exact ⟨_, hR3, hQ⟩

theorem AW.sdreg (hP : E.P.follows .mixedOrders = true) (hS : Sound E O) {id n : Nat} {t : Nat → AV} {h : List AObj} {ops : Array Oper} (hok : orderOK O.pf ops = true) {c : Code} (L : List (Nat × AV)) (h' : List AObj) (hr : Leaves L h' (arun E O ops ops.toList ⟨t, n, h⟩)) (hQ : AW E k c Q ⟨sl L, n, h'⟩) : AW E k (.seq (.region id ops true) c) Q ⟨t, n, h⟩ :=
  AW.seq (AW.dreg hP hS hok L h' hr hQ)

/-- A region, then the rest. -/
theorem AW.sreg (hS : Sound E O) {id n : Nat} {t : Nat → AV} {h : List AObj} {ops : Array Oper} {c : Code} (L : List (Nat × AV)) (h' : List AObj) (hr : Leaves L h' (arun E O ops ops.toList ⟨t, n, h⟩)) (hQ : AW E k c Q ⟨sl L, n, h'⟩) : AW E k (.seq (.region id ops false) c) Q ⟨t, n, h⟩ :=
  AW.seq (AW.reg hS L h' hr hQ)

theorem Good.start {f : FuncId} {fn : Func} {c : Code} (hf : E.P.funcs[f]? = some fn) (hb : fn.body = some c) {N : Nat} (hN : fn.ntmps = N) {args : List AV} {H : List AObj} {rs : List AV} {H' : List AObj} (hn : (args.length ≤ N) = True) (extra : List Nat) (L : List (Nat × AV)) (hL : enum 0 args = L)
    {m : Nat} (hm : H.length = m) (h : AW E m c (retQ E fn m extra rs H') ⟨sl L, N, H⟩) : Good E f args H rs H' := by
  subst hN hL hm
  exact Good.of_body hf hb (of_eq_true hn) extra (by rw [entryT_sl]; exact h)

open Classical in
/-- A loop over the states S a. -/
theorem AW.loopI {α : Type} (S : α → St) (p : α → Prop) (μ : α → Nat) {c : Code} (a₀ : α) (h0 : p a₀) (hr : ∀ a, p a → AW E k c (thenQ (fun σ' => ∃ a', p a' ∧ Weak E k σ' (S a') ∧ μ a' < μ a) Q) (S a)) : AW E k (.loop c) Q (S a₀) := by
  let q : St → Nat → Prop := fun σ n => ∃ a, p a ∧ S a = σ ∧ μ a = n
  let m : St → Nat := fun σ => if h : ∃ n, q σ n then Classical.choose (least (q σ) h) else 0
  have hm : ∀ σ, (∃ n, q σ n) → q σ (m σ) ∧ ∀ n, q σ n → m σ ≤ n := by
    intro σ h
    have := Classical.choose_spec (least (q σ) h)
    simp only [m, dif_pos h]
    exact this
  refine AW.loop (fun σ => ∃ n, q σ n) m ⟨_, a₀, h0, rfl, rfl⟩ (fun σ hI => ?_)
  obtain ⟨⟨a, ha, hs, hμ⟩, hmin⟩ := hm σ hI
  subst hs
  refine (hr a ha).mono (fun e σ' hQ => ?_)
  cases e with
  | normal =>
    obtain ⟨a', ha', hw, hlt⟩ := hQ
    have hex : ∃ n, q (S a') n := ⟨μ a', a', ha', rfl, rfl⟩
    exact ⟨S a', hw, hex, by have := (hm (S a') hex).2 (μ a') ⟨a', ha', rfl, rfl⟩; omega⟩
  | _ => exact hQ

theorem pvb_eq (a b : Bool) : (AV.pv (PV.bool a) = AV.pv (PV.bool b)) = (a = true ↔ b = true) := by
  rw [AV.pv.injEq, PV.bool.injEq, Bool.eq_iff_iff]

theorem pvi_eq (k : Go.IntKind) (a b : Int) : (AV.pv (PV.int k a) = AV.pv (PV.int k b)) = (a = b) := by
  rw [AV.pv.injEq, PV.int.injEq]
  simp

theorem get_getD {α : Type} {s : List α} {i : Nat} (d : α) (h : i < s.length) : s[i]? = some (s.getD i d) := by
  rw [List.getD_eq_getElem?_getD, List.getElem?_eq_getElem h]
  rfl

theorem int_beq (a b : Int) : (a == b) = decide (a = b) := rfl
theorem int_bne (a b : Int) : (a != b) = !decide (a = b) := rfl
theorem str_beq (a b : List UInt8) : (a == b) = decide (a = b) := by
  rw [Bool.eq_iff_iff]
  simp
theorem str_bne (a b : List UInt8) : (a != b) = !decide (a = b) := by
  rw [bne, str_beq]

theorem wrap_i64_id {n : Int} (h1 : -9223372036854775808 ≤ n) (h2 : n ≤ 9223372036854775807) : Go.IntKind.i64.wrap n = n := by
  rw [IntKind.wrap_i64]
  omega

theorem arun_nil {ops : Array Oper} : arun E O ops [] σ = some σ := rfl
theorem arun_cons {ops : Array Oper} {o : Oper} {l : List Oper} : arun E O ops (o :: l) σ = (astep E O ops σ o).bind (arun E O ops l) := rfl

theorem bind_some {α β : Type} (x : α) (f : α → Option β) : (some x).bind f = f x := rfl

end
end Go.Abs
