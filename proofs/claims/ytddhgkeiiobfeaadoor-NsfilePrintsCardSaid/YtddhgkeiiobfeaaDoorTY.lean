/- The layer 45 laws: the arguments as typed values. -/
import Derived.Test.YtddhgkeiiobfeaaDoorA35
import Derived.Test.YtddhgkeiiobfeaaDoorT1
set_option linter.unusedVariables false
set_option maxRecDepth 100000
namespace Go.Abs.U45
open Go Go.Proofs

theorem ty_3 (n : Nat) {p : PV} (h : Typed Tryd.prog (n + 1) 3 p) : ∃ x : Int, p = (.int .i64 x) ∧ inK .i64 x := by
  rw [Typed] at h
  simp only [Tryd.underlying3] at h
  obtain ⟨x, rfl, hw⟩ := h
  exact ⟨x, rfl, hw⟩

theorem ty_9 (n : Nat) {p : PV} (h : Typed Tryd.prog (n + 1) 9 p) : ∃ x : Str, p = (.str x) ∧ List.length x ≤ maxLen := by
  rw [Typed] at h
  simp only [Tryd.underlying9] at h
  obtain ⟨x, rfl, hw⟩ := h
  exact ⟨x, rfl, hw⟩

def w_23 (x : NsOp) : Prop := inK .i64 x.kind_ ∧ inK .i64 x.flag_ ∧ List.length x.new_ ≤ maxLen ∧ List.length x.old_ ≤ maxLen

theorem ty_23 (n : Nat) {p : PV} (h : Typed Tryd.prog (n + 2) 23 p) : ∃ x : NsOp, p = (.agg [.int .i64 x.kind_, .int .i64 x.flag_, .str x.new_, .str x.old_]) ∧ w_23 x := by
  rw [Typed] at h
  simp only [Tryd.underlying23] at h
  obtain ⟨qs, rfl, hl, hq⟩ := h
  match qs, hl with
  | [q0, q1, q2, q3], _ =>
    have e0 := hq 0 _ q0 rfl rfl
    obtain ⟨x0, h0, w0⟩ := ty_3 (n + 0) e0
    subst h0
    have e1 := hq 1 _ q1 rfl rfl
    obtain ⟨x1, h1, w1⟩ := ty_3 (n + 0) e1
    subst h1
    have e2 := hq 2 _ q2 rfl rfl
    obtain ⟨x2, h2, w2⟩ := ty_9 (n + 0) e2
    subst h2
    have e3 := hq 3 _ q3 rfl rfl
    obtain ⟨x3, h3, w3⟩ := ty_9 (n + 0) e3
    subst h3
    exact ⟨⟨x0, x1, x2, x3⟩, rfl, w0, w1, w2, w3⟩

def w_30 (x : Chan) : Prop := inK .i64 x.dev_ ∧ inK .i64 x.id_ ∧ inK .i64 x.fid_ ∧ List.length x.path_ ≤ maxLen ∧ List.length x.name_ ≤ maxLen

theorem ty_30 (n : Nat) {p : PV} (h : Typed Tryd.prog (n + 2) 30 p) : ∃ x : Chan, p = (.agg [.int .i64 x.dev_, .int .i64 x.id_, .int .i64 x.fid_, .str x.path_, .str x.name_]) ∧ w_30 x := by
  rw [Typed] at h
  simp only [Tryd.underlying30] at h
  obtain ⟨qs, rfl, hl, hq⟩ := h
  match qs, hl with
  | [q0, q1, q2, q3, q4], _ =>
    have e0 := hq 0 _ q0 rfl rfl
    obtain ⟨x0, h0, w0⟩ := ty_3 (n + 0) e0
    subst h0
    have e1 := hq 1 _ q1 rfl rfl
    obtain ⟨x1, h1, w1⟩ := ty_3 (n + 0) e1
    subst h1
    have e2 := hq 2 _ q2 rfl rfl
    obtain ⟨x2, h2, w2⟩ := ty_3 (n + 0) e2
    subst h2
    have e3 := hq 3 _ q3 rfl rfl
    obtain ⟨x3, h3, w3⟩ := ty_9 (n + 0) e3
    subst h3
    have e4 := hq 4 _ q4 rfl rfl
    obtain ⟨x4, h4, w4⟩ := ty_9 (n + 0) e4
    subst h4
    exact ⟨⟨x0, x1, x2, x3, x4⟩, rfl, w0, w1, w2, w3, w4⟩

theorem ty_4 (n : Nat) {p : PV} (h : Typed Tryd.prog (n + 1) 4 p) : ∃ x : Bool, p = (.bool x) ∧ True := by
  rw [Typed] at h
  simp only [Tryd.underlying4] at h
  obtain ⟨x, rfl⟩ := h
  exact ⟨x, rfl, trivial⟩

def w_42 (x : Target) : Prop := w_30 x.chan_ ∧ True

theorem ty_42 (n : Nat) {p : PV} (h : Typed Tryd.prog (n + 3) 42 p) : ∃ x : Target, p = (.agg [.int .i64 x.chan_.dev_, .int .i64 x.chan_.id_, .int .i64 x.chan_.fid_, .str x.chan_.path_, .str x.chan_.name_, .bool x.create_]) ∧ w_42 x := by
  rw [Typed] at h
  simp only [Tryd.underlying42] at h
  obtain ⟨qs, rfl, hl, hq⟩ := h
  match qs, hl with
  | [q0, q1], _ =>
    have e0 := hq 0 _ q0 rfl rfl
    obtain ⟨x0, h0, w0⟩ := ty_30 (n + 0) e0
    subst h0
    have e1 := hq 1 _ q1 rfl rfl
    obtain ⟨x1, h1, w1⟩ := ty_4 (n + 1) e1
    subst h1
    exact ⟨⟨x0, x1⟩, rfl, w0, w1⟩

def w_38 (xs : List Target) : Prop := xs.length ≤ maxLen ∧ ∀ x ∈ xs, w_42 x

theorem ty_38 (n : Nat) {p : PV} (h : Typed Tryd.prog (n + 4) 38 p) : ∃ x : List Target, p = (.slice (List.map Target.pv x)) ∧ w_38 x := by
  rw [Typed] at h
  simp only [Tryd.underlying38] at h
  obtain ⟨xs, rfl, hl, hx⟩ := h
  obtain ⟨ys, rfl, hw⟩ := ex_map (f := Target.pv) (W := fun x => w_42 x) fun x hm => ty_42 (n + 0) (hx x hm).1
  exact ⟨ys, rfl, by rw [List.length_map] at hl; exact hl, hw⟩

def w_40 (x : Mount) : Prop := w_30 x.from_ ∧ w_38 x.to_

theorem ty_40 (n : Nat) {p : PV} (h : Typed Tryd.prog (n + 5) 40 p) : ∃ x : Mount, p = (.agg [.int .i64 x.from_.dev_, .int .i64 x.from_.id_, .int .i64 x.from_.fid_, .str x.from_.path_, .str x.from_.name_, .slice (List.map Target.pv x.to_)]) ∧ w_40 x := by
  rw [Typed] at h
  simp only [Tryd.underlying40] at h
  obtain ⟨qs, rfl, hl, hq⟩ := h
  match qs, hl with
  | [q0, q1], _ =>
    have e0 := hq 0 _ q0 rfl rfl
    obtain ⟨x0, h0, w0⟩ := ty_30 (n + 2) e0
    subst h0
    have e1 := hq 1 _ q1 rfl rfl
    obtain ⟨x1, h1, w1⟩ := ty_38 (n + 0) e1
    subst h1
    exact ⟨⟨x0, x1⟩, rfl, w0, w1⟩

def w_31 (xs : List Mount) : Prop := xs.length ≤ maxLen ∧ ∀ x ∈ xs, w_40 x

theorem ty_31 (n : Nat) {p : PV} (h : Typed Tryd.prog (n + 6) 31 p) : ∃ x : List Mount, p = (.slice (List.map Mount.pv x)) ∧ w_31 x := by
  rw [Typed] at h
  simp only [Tryd.underlying31] at h
  obtain ⟨xs, rfl, hl, hx⟩ := h
  obtain ⟨ys, rfl, hw⟩ := ex_map (f := Mount.pv) (W := fun x => w_40 x) fun x hm => ty_40 (n + 0) (hx x hm).1
  exact ⟨ys, rfl, by rw [List.length_map] at hl; exact hl, hw⟩

def w_33 (x : Ns) : Prop := inK .i64 x.id_ ∧ w_30 x.root_ ∧ w_31 x.mounts_

theorem ty_33 (n : Nat) {p : PV} (h : Typed Tryd.prog (n + 7) 33 p) : ∃ x : Ns, p = (.agg [.int .i64 x.id_, .int .i64 x.root_.dev_, .int .i64 x.root_.id_, .int .i64 x.root_.fid_, .str x.root_.path_, .str x.root_.name_, .slice (List.map Mount.pv x.mounts_)]) ∧ w_33 x := by
  rw [Typed] at h
  simp only [Tryd.underlying33] at h
  obtain ⟨qs, rfl, hl, hq⟩ := h
  match qs, hl with
  | [q0, q1, q2], _ =>
    have e0 := hq 0 _ q0 rfl rfl
    obtain ⟨x0, h0, w0⟩ := ty_3 (n + 5) e0
    subst h0
    have e1 := hq 1 _ q1 rfl rfl
    obtain ⟨x1, h1, w1⟩ := ty_30 (n + 4) e1
    subst h1
    have e2 := hq 2 _ q2 rfl rfl
    obtain ⟨x2, h2, w2⟩ := ty_31 (n + 0) e2
    subst h2
    exact ⟨⟨x0, x1, x2⟩, rfl, w0, w1, w2⟩

def w_43 (xs : List NsOp) : Prop := xs.length ≤ maxLen ∧ ∀ x ∈ xs, w_23 x

theorem ty_43 (n : Nat) {p : PV} (h : Typed Tryd.prog (n + 3) 43 p) : ∃ x : List NsOp, p = (.slice (List.map NsOp.pv x)) ∧ w_43 x := by
  rw [Typed] at h
  simp only [Tryd.underlying43] at h
  obtain ⟨xs, rfl, hl, hx⟩ := h
  obtain ⟨ys, rfl, hw⟩ := ex_map (f := NsOp.pv) (W := fun x => w_23 x) fun x hm => ty_23 (n + 0) (hx x hm).1
  exact ⟨ys, rfl, by rw [List.length_map] at hl; exact hl, hw⟩

end Go.Abs.U45
