/- The layer 45 laws, in plain Lean: Line, Show and Print agree with the reference. -/
import Derived.Test.YtddhgkeiiobfeaaDoorP2
namespace Go.Abs.U45
open Go

theorem line_12 {k f : Int} (hk : k = 1 ∨ k = 2) (n o : Str) : line ⟨k, f, n, o⟩ = glue 32 ((verb k :: flagW f) ++ [quote n, quote o]) := by
  rcases hk with rfl | rfl <;> rfl

theorem head_len {k f : Int} (hk : k = 1 ∨ k = 2 ∨ k = 3) (hf : flagged f = true) : (glue 32 (verb k :: flagW f)).length ≤ 100 ∧ (verb k :: flagW f).length ≤ 2 := by
  rcases hk with rfl | rfl | rfl <;> rcases flagged_cases hf with rfl | rfl | rfl | rfl | rfl | rfl <;> decide

theorem F23_12 {k f : Int} {n o : Str} (hk : k = 1 ∨ k = 2) (hf : flagged f = true) (hn : n.length ≤ 1000000) (ho : o.length ≤ 1000000) : F23 ⟨k, f, n, o⟩ = some (line ⟨k, f, n, o⟩) := by
  have := head_len (k := k) (f := f) (by omega) hf
  rw [h23 hk hf, t23_eq (by simp) (by omega) (by omega) hn ho, line_12 hk]

theorem F24_12 {k f : Int} {n o : Str} (hk : k = 1 ∨ k = 2) (hf : flagged f = true) (hn : n.length ≤ 1000000) (ho : o.length ≤ 1000000) : F24 ⟨k, f, n, o⟩ = some (line ⟨k, f, n, o⟩) := by
  have := head_len (k := k) (f := f) (by omega) hf
  rw [h24 hk hf, t24_eq (by simp) (by omega) hn ho, line_12 hk]

def t1 (v n : Str) : Option Str := (F37 n).bind fun a => (appO 16 [v] [a]).bind fun l => (L_Join l [32]).bind fun s => some s
def t2 (v n : Str) : Option Str := (F39 n).bind fun r => (catO v r).bind fun s => some s

theorem t1_eq {v n : Str} (hv : v.length ≤ 1000) (hn : n.length ≤ 1000000) : t1 v n = some (glue 32 [v, quote n]) := by
  have q1 := quote_len n
  unfold t1
  rw [F37_eq (by omega)]
  simp only [Option.bind_some]
  rw [appO_eq (by simp)]
  simp only [Option.bind_some]
  rw [L_Join_eq (by simp [glue]; omega) (by simp)]
  rfl

theorem t2_eq {v n : Str} (hv : v.length ≤ 1000) (hn : n.length ≤ 1000000) : t2 (v ++ [32]) n = some (glue 32 [v, quote n]) := by
  have q1 := quote_len n
  unfold t2
  rw [F39_eq (by omega)]
  simp only [Option.bind_some]
  rw [catO_eq (by simp; omega)]
  simp [glue]

def u23 (n o : Str) : Option Str := (F37 n).bind fun a => (appO 16 [verb 3] [a]).bind fun l => (F37 o).bind fun b => (appO 16 l [b]).bind fun l => (L_Join l [32]).bind fun s => some s

theorem F23_3 {n o : Str} (hn : n.length ≤ 1000000) (ho : o.length ≤ 1000000) : F23 ⟨3, 0, n, o⟩ = some (line ⟨3, 0, n, o⟩) := by
  have h : F23 ⟨3, 0, n, o⟩ = bif !decide (n = []) then u23 n o else t1 (verb 3) o := by kernel_rfl
  have hl : line ⟨3, 0, n, o⟩ = glue 32 (bif decide (n = []) then [verb 3, quote o] else [verb 3, quote n, quote o]) := by
    unfold line words
    cases decide (n = []) <;> rfl
  rw [h, hl]
  cases decide (n = []) with
  | true => exact t1_eq (by decide) ho
  | false =>
    have q1 := quote_len n
    have q2 := quote_len o
    show u23 n o = _
    unfold u23
    rw [F37_eq (by omega), F37_eq (by omega)]
    simp only [Option.bind_some]
    rw [appO_eq (by simp)]
    simp only [Option.bind_some]
    rw [appO_eq (by simp)]
    simp only [Option.bind_some]
    have hv : (verb 3).length = 7 := rfl
    rw [L_Join_eq (by simp [glue]; omega) (by simp)]
    rfl

theorem F24_3 {n o : Str} (hn : n.length ≤ 1000000) (ho : o.length ≤ 1000000) : F24 ⟨3, 0, n, o⟩ = some (line ⟨3, 0, n, o⟩) := by
  have h : F24 ⟨3, 0, n, o⟩ = bif decide (n = []) then t2 (verb 3 ++ [32]) o else t24 (glue 32 [verb 3] ++ [32]) n o := by kernel_rfl
  have hl : line ⟨3, 0, n, o⟩ = glue 32 (bif decide (n = []) then [verb 3, quote o] else [verb 3, quote n, quote o]) := by
    unfold line words
    cases decide (n = []) <;> rfl
  rw [h, hl]
  cases decide (n = []) with
  | true => exact t2_eq (by decide) ho
  | false => exact t24_eq (by simp) (by decide) hn ho

theorem F23_5 {n o : Str} (hn : n.length ≤ 1000000) : F23 ⟨5, 0, n, o⟩ = some (line ⟨5, 0, n, o⟩) := by
  have h : F23 ⟨5, 0, n, o⟩ = t1 (verb 5) n := by kernel_rfl
  rw [h, t1_eq (by decide) hn]
  rfl

theorem F24_5 {n o : Str} (hn : n.length ≤ 1000000) : F24 ⟨5, 0, n, o⟩ = some (line ⟨5, 0, n, o⟩) := by
  have h : F24 ⟨5, 0, n, o⟩ = t2 (verb 5 ++ [32]) n := by kernel_rfl
  rw [h, t2_eq (by decide) hn]
  rfl

theorem F23_4 {n o : Str} : F23 ⟨4, 0, n, o⟩ = some (line ⟨4, 0, n, o⟩) := by kernel_rfl
theorem F24_4 {n o : Str} : F24 ⟨4, 0, n, o⟩ = some (line ⟨4, 0, n, o⟩) := by kernel_rfl

theorem ok_lens {op : NsOp} (h : okOp op = true) : op.new_.length ≤ 1024 ∧ op.old_.length ≤ 1024 := by
  rcases okOp_cases h with ⟨_, _, h1, h2⟩ | ⟨_, _, h1, h2⟩ | ⟨_, _, h1, h2⟩ | ⟨_, _, h1, h2⟩
  · exact ⟨(place_len h1).2, (place_len h2).2⟩
  · rcases h1 with h1 | h1
    · exact ⟨by rw [h1]; decide, (place_len h2).2⟩
    · exact ⟨(place_len h1).2, (place_len h2).2⟩
  · exact ⟨by rw [h1]; decide, by rw [h2]; decide⟩
  · exact ⟨(place_len h1).2, by rw [h2]; decide⟩

theorem F23_eq {op : NsOp} (h : okOp op = true) : F23 op = some (line op) := by
  have hl := ok_lens h
  obtain ⟨k, f, n, o⟩ := op
  simp only at hl
  rcases okOp_cases h with ⟨hk, hf, _, _⟩ | ⟨hk, hf, _, _⟩ | ⟨hk, hf, _, _⟩ | ⟨hk, hf, _, _⟩ <;> simp only at hk hf
  · exact F23_12 hk hf (by omega) (by omega)
  · subst hk hf
    exact F23_3 (by omega) (by omega)
  · subst hk hf
    exact F23_4
  · subst hk hf
    exact F23_5 (by omega)

theorem F24_eq {op : NsOp} (h : okOp op = true) : F24 op = some (line op) := by
  have hl := ok_lens h
  obtain ⟨k, f, n, o⟩ := op
  simp only at hl
  rcases okOp_cases h with ⟨hk, hf, _, _⟩ | ⟨hk, hf, _, _⟩ | ⟨hk, hf, _, _⟩ | ⟨hk, hf, _, _⟩ <;> simp only at hk hf
  · exact F24_12 hk hf (by omega) (by omega)
  · subst hk hf
    exact F24_3 (by omega) (by omega)
  · subst hk hf
    exact F24_4
  · subst hk hf
    exact F24_5 (by omega)

def lineR (op : NsOp) : Str × Int := bif okOp op then (line op, 0) else ([], 1)

theorem F10_eq {op : NsOp} (hf : op.flag_ ≤ 9223372036854775807) : F10 op = some (lineR op) := by
  unfold F10 lineR
  rw [F22_eq hf]
  simp only [Option.bind_some]
  cases h : okOp op with
  | false => rfl
  | true =>
    rw [F23_eq h]
    rfl

theorem F11_eq {op : NsOp} (hn : op.new_.length ≤ 4611686018427387904) (ho : op.old_.length ≤ 4611686018427387904) : F11 op = some (lineR op) := by
  unfold F11 lineR
  rw [F19_eq hn ho]
  simp only [Option.bind_some]
  cases h : okOp op with
  | false => rfl
  | true =>
    rw [F24_eq h]
    rfl

theorem awake : F9 = some true := by kernel_rfl

def light (op : NsOp) : Bool := decide ((op.new_.length : Int) ≤ 1100) && decide ((op.old_.length : Int) ≤ 1100)

theorem light_len {op : NsOp} (h : light op = true) : op.new_.length ≤ 1100 ∧ op.old_.length ≤ 1100 := by
  unfold light at h
  simp only [Bool.and_eq_true, decide_eq_true_eq] at h
  omega

theorem plain3 (op : NsOp) (hf : op.flag_ ≤ 9223372036854775807) : F3 op = some true := by
  have h8 : F8 op = some (light op) := rfl
  unfold F3
  rw [h8, awake]
  simp only [Option.bind_some]
  cases hl : light op with
  | false => rfl
  | true =>
    have := light_len hl
    rw [F10_eq hf, F11_eq (by omega) (by omega)]
    simp only [Option.bind_some, Bool.not_true, cond_f, decide_true, Bool.and_true, guardO_true]

end Go.Abs.U45
