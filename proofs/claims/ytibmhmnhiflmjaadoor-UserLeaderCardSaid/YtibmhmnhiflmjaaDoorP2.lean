/- The layer 5 laws, in plain Lean: the texts. -/
import Derived.Test.YtibmhmnhiflmjaaDoorP1
namespace Go.Abs.U05
open Go

def joinC : List Str → Str
  | [] => []
  | [x] => x
  | x :: y :: r => x ++ 44 :: joinC (y :: r)
def tailC (ws : List Str) : Str := ws.flatMap fun w => 44 :: w
def lineT (u : User) : Str := u.name_ ++ 58 :: (u.leader_ ++ 58 :: (joinC u.members_ ++ [10]))
def text (l : List User) : Str := l.flatMap lineT

theorem joinC_cons (x : Str) : ∀ r : List Str, joinC (x :: r) = x ++ tailC r
  | [] => by simp [joinC, tailC]
  | y :: r => by
    rw [joinC, joinC_cons y r]
    simp [tailC]

theorem join_eq : ∀ xs : List Str, Lib.join xs [44] = joinC xs
  | [] => rfl
  | [x] => by simp [Lib.join, List.intercalate, joinC]
  | x :: y :: r => by
    have ih := join_eq (y :: r)
    simp only [Lib.join, List.intercalate] at ih ⊢
    rw [joinC, ← ih]
    simp [List.intersperse]

theorem joinC_len : ∀ xs : List Str, xs.length ≤ (joinC xs).length + 1
  | [] => Nat.zero_le _
  | x :: r => by
    rw [joinC_cons]
    have : r.length ≤ (tailC r).length := by
      induction r with
      | nil => exact Nat.zero_le _
      | cons y r ih =>
        have e : tailC (y :: r) = 44 :: y ++ tailC r := by simp [tailC]
        rw [e]
        simp
        omega
    simp
    omega

theorem L_Join_eq {xs : List Str} (h : (joinC xs).length ≤ 100000000000000) : L_Join xs [44] = some (joinC xs) := by
  unfold L_Join
  have := joinC_len xs
  rw [join_eq, if_pos ⟨by omega, by omega⟩]

theorem text_cons (u : User) (l : List User) : text (u :: l) = lineT u ++ text l := by simp [text]

theorem F14_loop : ∀ (us : List User) (i : Int) (b : Str), (b ++ text us).length ≤ 100000000000000 →
    loopS (fun (u : User) (_ : Int) (k : Str → Option (Str × Int)) (b : Str) => (catO u.name_ [58]).bind fun s17 => (catO s17 u.leader_).bind fun s20 => (catO s20 [58]).bind fun s23 => (L_Join u.members_ [44]).bind fun s26 => (catO s23 s26).bind fun s29 => (catO s29 [10]).bind fun s32 => (L_WriteString b s32).bind fun x => k x.2)
      (fun b => (L_String b).bind fun s40 => some (s40, 0)) us i b = some (b ++ text us, 0)
  | [], _, b, _ => by simp [loopS, text, L_String]
  | u :: us, i, b, h => by
    rw [text_cons] at h
    have hl : (lineT u).length = u.name_.length + (u.leader_.length + ((joinC u.members_).length + 1) + 1) + 1 := by simp [lineT]; omega
    simp only [List.length_append, hl] at h
    have e1 : catO u.name_ [58] = some (u.name_ ++ [58]) := catO_eq (by simp; omega)
    have e2 : catO (u.name_ ++ [58]) u.leader_ = some (u.name_ ++ [58] ++ u.leader_) := catO_eq (by simp; omega)
    have e3 : catO (u.name_ ++ [58] ++ u.leader_) [58] = some (u.name_ ++ [58] ++ u.leader_ ++ [58]) := catO_eq (by simp; omega)
    have e4 : L_Join u.members_ [44] = some (joinC u.members_) := L_Join_eq (by omega)
    have e5 : catO (u.name_ ++ [58] ++ u.leader_ ++ [58]) (joinC u.members_) = some (u.name_ ++ [58] ++ u.leader_ ++ [58] ++ joinC u.members_) := catO_eq (by simp; omega)
    have e6 : catO (u.name_ ++ [58] ++ u.leader_ ++ [58] ++ joinC u.members_) [10] = some (lineT u) := by
      rw [catO_eq (by simp; omega)]
      simp [lineT]
    have e7 : L_WriteString b (lineT u) = some (((lineT u).length : Int), b ++ lineT u) := if_pos (by rw [hl]; omega)
    simp only [loopS, e1, e2, e3, e4, e5, e6, e7, Option.bind_some]
    rw [F14_loop us (i + 1) (b ++ lineT u) (by simp only [List.length_append, hl]; omega), text_cons, List.append_assoc]

def print (l : List User) : Str × Int := bif !decide (check l = 0) then ([], check l) else (text l, 0)

theorem F14_eq {l : List User} (hm : ∀ u ∈ l, u.members_.length ≤ 4611686018427387904) (ht : (text l).length ≤ 100000000000000) : F14 l = some (print l) := by
  unfold F14 print
  rw [F16_eq hm]
  simp only [Option.bind_some]
  by_cases h : 64 < (l.length : Int)
  · have : check l = 22 := by simp [check, h]
    rw [this]
    rfl
  · rw [iter_rangeS (body := F14_b1 l) l (fun (u : User) (_ : Int) (k : Str → Option (Str × Int)) (b : Str) => (catO u.name_ [58]).bind fun s17 => (catO s17 u.leader_).bind fun s20 => (catO s20 [58]).bind fun s23 => (L_Join u.members_ [44]).bind fun s26 => (catO s23 s26).bind fun s29 => (catO s29 [10]).bind fun s32 => (L_WriteString b s32).bind fun x => k x.2)
      (fun b => (L_String b).bind fun s40 => some (s40, 0)) (fun _ _ _ => rfl) (by omega), F14_loop l 0 [] (by simpa using ht)]
    cases (!decide (check l = 0)) <;> rfl

theorem F15_inner (u : User) (again : Str × Int → Option (Str × Int)) (i9 : Int) (hu : u.members_.length ≤ 4611686018427387904) : ∀ (n : Nat) (ws pre : List Str) (s : Str), u.members_ = pre ++ ws → ws.length < n →
    s.length + (tailC ws).length + 1 ≤ 100000000000000 → iter (F15_b6 u again i9) n (s, (pre.length : Int)) = again (s ++ (if pre = [] then joinC ws else tailC ws) ++ [10], IntKind.wrap .i64 (i9 + 1)) := by
  intro n
  induction n with
  | zero => intro ws pre s _ h; omega
  | succ n ih =>
    intro ws pre s hms hn hlen
    show F15_b6 u again i9 (iter (F15_b6 u again i9) n) (s, (pre.length : Int)) = _
    rw [F15_b6]
    cases ws with
    | nil =>
      rw [decide_eq_false (by rw [hms]; simp), cond_f, catO_eq (by simp; omega)]
      have : (if pre = [] then joinC [] else tailC []) = ([] : Str) := by split <;> rfl
      rw [this]
      simp
    | cons w ws =>
      have h0 : lidx u.members_ (pre.length : Int) = some w := by
        rw [lidx_nat, hms]
        simp
      have hlp : pre.length < u.members_.length := by rw [hms]; simp
      have et : tailC (w :: ws) = 44 :: w ++ tailC ws := by simp [tailC]
      rw [et] at hlen
      simp only [List.length_append, List.length_cons] at hlen
      have hw2 : IntKind.wrap .i64 ((pre.length : Int) + 1) = ((pre ++ [w]).length : Int) := by rw [wrap64 (by omega) (by omega)]; simp
      have ih' := ih ws (pre ++ [w]) (s ++ (if pre = [] then w else 44 :: w)) (by simp [hms]) (by simp at hn; omega) (by split <;> (simp; omega))
      have hne : ¬ (pre ++ [w] = []) := by simp
      rw [if_neg hne] at ih'
      rw [decide_eq_true (by omega), cond_t]
      by_cases hp : pre = []
      · subst hp
        rw [decide_eq_false (by simp), cond_f]
        unfold F15_j7
        rw [h0]
        simp only [Option.bind_some]
        rw [catO_eq (by omega)]
        simp only [Option.bind_some]
        rw [hw2]
        rw [if_pos rfl] at ih'
        rw [if_true, ih', joinC_cons]
        simp
      · have hpos : 0 < pre.length := List.length_pos_iff.2 hp
        rw [decide_eq_true (by omega), cond_t, catO_eq (by simp; omega)]
        simp only [Option.bind_some]
        unfold F15_j7
        rw [h0]
        simp only [Option.bind_some]
        rw [catO_eq (by simp; omega)]
        simp only [Option.bind_some]
        rw [hw2]
        rw [if_neg hp] at ih' ⊢
        have e : s ++ [44] ++ w = s ++ 44 :: w := by simp
        rw [e, ih', et]
        simp

theorem tailC_le (ws : List Str) : (tailC ws).length ≤ (joinC ws).length + 1 := by
  cases ws with
  | nil => simp [tailC]
  | cons x r =>
    rw [joinC_cons]
    have : tailC (x :: r) = 44 :: x ++ tailC r := by simp [tailC]
    rw [this]
    simp

theorem F15_loop : ∀ (us : List User) (i : Int) (b : Str), (∀ u ∈ us, u.members_.length ≤ 4611686018427387904) → (b ++ text us).length ≤ 100000000000 →
    loopS (fun (u : User) (i : Int) (k : Str → Option (Str × Int)) (b : Str) => (catO b u.name_).bind fun s17 => (catO s17 [58]).bind fun s20 => (catO s20 u.leader_).bind fun s23 => (catO s23 [58]).bind fun s26 => iter (F15_b6 u (fun p => k p.1) i) BIG (s26, 0))
      (fun b => some (b, 0)) us i b = some (b ++ text us, 0)
  | [], _, b, _, _ => by simp [loopS, text]
  | u :: us, i, b, hm, h => by
    rw [text_cons] at h
    have hl : (lineT u).length = u.name_.length + (u.leader_.length + ((joinC u.members_).length + 1) + 1) + 1 := by simp [lineT]; omega
    simp only [List.length_append, hl] at h
    have hu := hm u (by simp)
    have ht := tailC_le u.members_
    have e1 : catO b u.name_ = some (b ++ u.name_) := catO_eq (by omega)
    have e2 : catO (b ++ u.name_) [58] = some (b ++ u.name_ ++ [58]) := catO_eq (by simp; omega)
    have e3 : catO (b ++ u.name_ ++ [58]) u.leader_ = some (b ++ u.name_ ++ [58] ++ u.leader_) := catO_eq (by simp; omega)
    have e4 : catO (b ++ u.name_ ++ [58] ++ u.leader_) [58] = some (b ++ u.name_ ++ [58] ++ u.leader_ ++ [58]) := catO_eq (by simp; omega)
    simp only [loopS, e1, e2, e3, e4, Option.bind_some]
    have hin := F15_inner u (fun p => loopS (fun (u : User) (i : Int) (k : Str → Option (Str × Int)) (b : Str) => (catO b u.name_).bind fun s17 => (catO s17 [58]).bind fun s20 => (catO s20 u.leader_).bind fun s23 => (catO s23 [58]).bind fun s26 => iter (F15_b6 u (fun p => k p.1) i) BIG (s26, 0))
      (fun b => some (b, 0)) us (i + 1) p.1) i hu BIG u.members_ [] (b ++ u.name_ ++ [58] ++ u.leader_ ++ [58]) rfl (by unfold BIG; omega) (by simp; omega)
    simp only [List.length_nil, if_true] at hin
    refine Eq.trans hin ?_
    rw [F15_loop us (i + 1) _ (fun v hv => hm v (by simp [hv])) (by simp only [List.length_append, List.length_cons, List.length_nil]; omega), text_cons]
    simp [lineT]

theorem F15_eq {l : List User} (hm : ∀ u ∈ l, u.members_.length ≤ 4611686018427387904) (ht : (text l).length ≤ 100000000000) : F15 l = some (print l) := by
  unfold F15 print
  rw [F17_eq hm]
  simp only [Option.bind_some]
  by_cases h : 64 < (l.length : Int)
  · have : check l = 22 := by simp [check, h]
    rw [this]
    rfl
  · rw [iter_rangeT (body := F15_b4 l) l (fun (u : User) (i : Int) (k : Str → Option (Str × Int)) (b : Str) => (catO b u.name_).bind fun s17 => (catO s17 [58]).bind fun s20 => (catO s20 u.leader_).bind fun s23 => (catO s23 [58]).bind fun s26 => iter (F15_b6 u (fun p => k p.1) i) BIG (s26, 0))
      (fun b => some (b, 0)) (fun _ _ _ => rfl) (by omega), F15_loop l 0 [] hm (by simpa using ht)]
    cases (!decide (check l = 0)) <;> rfl

theorem joinC_bound {c : Nat} : ∀ ws : List Str, (∀ w ∈ ws, w.length ≤ c) → (joinC ws).length ≤ ws.length * (c + 1)
  | [], _ => Nat.zero_le _
  | x :: r, h => by
    rw [joinC_cons]
    have ht : (tailC r).length ≤ r.length * (c + 1) := by
      have hr : ∀ w ∈ r, w.length ≤ c := fun w hw => h w (by simp [hw])
      clear h
      induction r with
      | nil => simp [tailC]
      | cons y r ih =>
        have e : tailC (y :: r) = 44 :: y ++ tailC r := by simp [tailC]
        rw [e]
        have h1 := ih fun w hw => hr w (by simp [hw])
        have h2 := hr y (by simp)
        simp only [List.length_append, List.length_cons, Nat.succ_mul]
        omega
    have h0 := h x (by simp)
    simp only [List.length_append, List.length_cons, Nat.succ_mul]
    omega

theorem text_bound : ∀ l : List User, smallL l = true → (text l).length ≤ l.length * 10000
  | [], _ => by simp [text]
  | u :: l, h => by
    obtain ⟨h1, h2, h3, h4⟩ := smallL_mem h u (by simp)
    have hj := joinC_bound u.members_ h4
    have hl : (lineT u).length = u.name_.length + (u.leader_.length + ((joinC u.members_).length + 1) + 1) + 1 := by simp [lineT]; omega
    have h5 := text_bound l (by simp only [smallL, Bool.and_eq_true] at h; exact h.2)
    have h6 : u.members_.length * (200 + 1) ≤ 30 * 201 := Nat.mul_le_mul_right _ h1
    rw [text_cons]
    simp only [List.length_append, hl, List.length_cons, Nat.succ_mul]
    omega

theorem small_ok {l : List User} (h : small l = true) : (∀ u ∈ l, u.members_.length ≤ 4611686018427387904) ∧ (text l).length ≤ 100000000000 := by
  obtain ⟨h1, h2⟩ := small_len h
  refine ⟨fun u hu => ?_, ?_⟩
  · have := (smallL_mem h2 u hu).1
    omega
  · have := text_bound l h2
    omega

end Go.Abs.U05
