/- The layer 5 laws, in plain Lean: parsing. -/
import Derived.Test.YtibmhmnhiflmjaaDoorP2
namespace Go.Abs.U05
open Go

/-- The parts of a text between separators. -/
def parts (c : UInt8) : Str → List Str
  | [] => [[]]
  | x :: r => if x = c then [] :: parts c r else match parts c r with
    | [] => [[x]]
    | p :: ps => (x :: p) :: ps

theorem parts_ne (c : UInt8) : ∀ s : Str, ∃ p ps, parts c s = p :: ps
  | [] => ⟨[], [], rfl⟩
  | x :: r => by
    obtain ⟨p, ps, h⟩ := parts_ne c r
    simp only [parts]
    split
    · exact ⟨_, _, rfl⟩
    · rw [h]
      exact ⟨_, _, rfl⟩

theorem parts_hit {c : UInt8} : ∀ (n : Nat) (t : Str), n < t.length → (∀ j, j < n → t.getD j 0 ≠ c) → t.getD n 0 = c → parts c t = t.take n :: parts c (t.drop (n + 1))
  | 0, [], h, _, _ => by simp at h
  | 0, x :: r, _, _, h2 => by
    simp only [List.getD_cons_zero] at h2
    simp [parts, h2]
  | n + 1, [], h, _, _ => by simp at h
  | n + 1, x :: r, h, h1, h2 => by
    have hx : x ≠ c := by simpa using h1 0 (by omega)
    have ih := parts_hit n r (by simpa using h) (fun j hj => by simpa using h1 (j + 1) (by omega)) (by simpa using h2)
    simp only [parts, if_neg hx]
    rw [ih]
    simp

theorem parts_last {c : UInt8} : ∀ (t : Str), (∀ j, j < t.length → t.getD j 0 ≠ c) → parts c t = [t]
  | [], _ => rfl
  | x :: r, h => by
    have hx : x ≠ c := by simpa using h 0 (by simp)
    have ih := parts_last r (fun j hj => by simpa using h (j + 1) (by simpa using hj))
    simp only [parts, if_neg hx]
    rw [ih]

theorem parts_free {c : UInt8} : ∀ (a : Str), c ∉ a → parts c a = [a]
  | [], _ => rfl
  | x :: r, h => by
    simp only [List.mem_cons, not_or] at h
    simp only [parts, if_neg (fun e => h.1 (Eq.symm e)), parts_free r h.2]

theorem parts_cut {c : UInt8} (b : Str) : ∀ (a : Str), c ∉ a → parts c (a ++ c :: b) = a :: parts c b
  | [], _ => by simp [parts]
  | x :: r, h => by
    simp only [List.mem_cons, not_or] at h
    simp only [List.cons_append, parts, if_neg (fun e => h.1 (Eq.symm e)), parts_cut b r h.2]

theorem parts_len (c : UInt8) : ∀ s : Str, (parts c s).length ≤ s.length + 1
  | [] => Nat.le_refl _
  | x :: r => by
    have ih := parts_len c r
    simp only [parts]
    split
    · simp only [List.length_cons]; omega
    · obtain ⟨p, ps, h⟩ := parts_ne c r
      rw [h] at ih ⊢
      simp only [List.length_cons] at ih ⊢
      omega

theorem parts_mem_len (c : UInt8) : ∀ (s : Str), ∀ p ∈ parts c s, p.length ≤ s.length
  | [], p, h => by simp [parts] at h; subst h; exact Nat.le_refl _
  | x :: r, p, h => by
    have ih := parts_mem_len c r
    simp only [parts] at h
    split at h
    · rcases List.mem_cons.1 h with rfl | h
      · exact Nat.zero_le _
      · have := ih p h
        simp only [List.length_cons]; omega
    · obtain ⟨q, ps, hq⟩ := parts_ne c r
      rw [hq] at h ih
      rcases List.mem_cons.1 h with rfl | h
      · have := ih q (by simp)
        simp only [List.length_cons]; omega
      · have := ih p (by simp [h])
        simp only [List.length_cons]; omega

/-- The parts with the separator between them. -/
def glue (c : UInt8) : List Str → Str
  | [] => []
  | [x] => x
  | x :: y :: r => x ++ c :: glue c (y :: r)

theorem glue_parts (c : UInt8) : ∀ s : Str, glue c (parts c s) = s
  | [] => rfl
  | x :: r => by
    have ih := glue_parts c r
    obtain ⟨p, ps, h⟩ := parts_ne c r
    rw [h] at ih
    simp only [parts]
    split
    · rename_i hx
      rw [h, glue, ih, hx]
      rfl
    · rw [h]
      cases ps with
      | nil => simp only [glue] at ih ⊢; rw [ih]
      | cons y ys => simp only [glue] at ih ⊢; rw [List.cons_append, ih]

theorem joinC_glue : ∀ xs : List Str, joinC xs = glue 44 xs
  | [] => rfl
  | [x] => rfl
  | x :: y :: r => by rw [joinC, glue, joinC_glue (y :: r)]

theorem parts_join {c : UInt8} : ∀ (x : Str) (xs : List Str), (∀ w ∈ x :: xs, c ∉ w) → parts c (glue c (x :: xs)) = x :: xs
  | x, [], h => parts_free x (h x (by simp))
  | x, y :: r, h => by
    rw [glue, parts_cut _ x (h x (by simp)), parts_join y r fun w hw => h w (by simp at hw ⊢; exact .inr hw)]

/-! ### The library -/

theorem index1 (c : UInt8) : ∀ s : Str, (Lib.index s [c] = -1 ∧ ∀ j, j < s.length → s.getD j 0 ≠ c) ∨ ∃ i : Nat, i < s.length ∧ Lib.index s [c] = i ∧ s.getD i 0 = c ∧ ∀ j, j < i → s.getD j 0 ≠ c
  | [] => .inl ⟨rfl, fun j hj => absurd hj (Nat.not_lt_zero j)⟩
  | x :: r => by
    by_cases hx : c = x
    · refine .inr ⟨0, by simp, ?_, by simp [hx], fun j hj => absurd hj (Nat.not_lt_zero j)⟩
      simp [Lib.index, List.isPrefixOf, hx]
    · have hp : ([c] : Str).isPrefixOf (x :: r) = false := by simp [List.isPrefixOf, hx]
      rcases index1 c r with ⟨h1, h2⟩ | ⟨i, hi, h1, h2, h3⟩
      · refine .inl ⟨by simp [Lib.index, hp, h1], fun j hj => ?_⟩
        cases j with
        | zero => simpa using fun e => hx (Eq.symm e)
        | succ j => simpa using h2 j (by simpa using hj)
      · refine .inr ⟨i + 1, by simpa using hi, ?_, by simpa using h2, fun j hj => ?_⟩
        · have : ((i : Int) == -1) = false := by rw [beq_eq_false_iff_ne]; omega
          simp [Lib.index, hp, h1, this]
        · cases j with
          | zero => simpa using fun e => hx (Eq.symm e)
          | succ j => simpa using h3 j (by omega)

theorem splitK_parts (c : UInt8) : ∀ (fuel : Nat) (s : Str), s.length < fuel → Lib.splitK [c] 0 (Lib.countFrom [c] fuel s) s = parts c s
  | 0, s, h => absurd h (Nat.not_lt_zero _)
  | fuel + 1, s, h => by
    simp only [Lib.countFrom]
    rcases index1 c s with ⟨h1, h2⟩ | ⟨i, hi, h1, h2, h3⟩
    · rw [h1]
      simp only [beq_self_eq_true, if_true]
      rw [parts_last s h2]
      rfl
    · have hne : ((i : Int) == -1) = false := by rw [beq_eq_false_iff_ne]; omega
      rw [h1, hne]
      simp only [Bool.false_eq_true, if_false, Int.toNat_natCast, List.length_singleton]
      rw [Nat.add_comm 1, Lib.splitK, h1, hne]
      simp only [Bool.false_eq_true, if_false, Int.toNat_natCast, List.length_singleton, Nat.add_zero]
      rw [splitK_parts c fuel (s.drop (i + 1)) (by simp; omega), parts_hit i s hi h3 h2]

theorem splitS_parts (s : Str) (c : UInt8) : splitS s [c] = parts c s := by
  unfold splitS
  have := Lib.splitB_data ⟨⟨[c]⟩⟩ 0 (Lib.countB ⟨⟨s⟩⟩ ⟨⟨[c]⟩⟩) ⟨⟨s⟩⟩
  rw [this]
  exact splitK_parts c (s.length + 1) s (Nat.lt_succ_self _)

theorem cut_parts (c : UInt8) (s : Str) : (Lib.cut s [c] = (s, [], false) ∧ parts c s = [s]) ∨ ∃ a b, Lib.cut s [c] = (a, b, true) ∧ parts c s = a :: parts c b ∧ b.length < s.length ∧ a.length ≤ s.length := by
  unfold Lib.cut
  rcases index1 c s with ⟨h1, h2⟩ | ⟨i, hi, h1, h2, h3⟩
  · refine .inl ⟨?_, parts_last s h2⟩
    rw [if_neg (by rw [h1]; decide)]
  · refine .inr ⟨s.take i, s.drop (i + 1), ?_, parts_hit i s hi h3 h2, by simp; omega, by simp; omega⟩
    rw [if_pos (by rw [h1]; omega), h1]
    simp

theorem L_Split_eq {s : Str} (c : UInt8) (h : s.length ≤ 4294967280) : L_Split s [c] = some (parts c s) := by
  unfold L_Split
  rw [if_pos ⟨by omega, by simp⟩, splitS_parts]

/-! ### Lines -/

def lineU (s : Str) : User × Bool := match parts 58 s with
  | [a, b, c] => if c = [] then (⟨a, b, []⟩, true) else (⟨a, b, parts 44 c⟩, !(parts 44 c).any fun m => decide (m = []))
  | _ => (⟨[], [], []⟩, false)

theorem F38_eq {s : Str} (h : s.length ≤ 4294967280) : F38 s = some (lineU s) := by
  have hp := parts_mem_len 58 s
  unfold F38 lineU
  rw [L_Split_eq 58 h]
  simp only [Option.bind_some]
  match hq : parts 58 s, hp with
  | [], _ => rfl
  | [a], _ => rfl
  | [a, b], _ => rfl
  | a :: b :: c :: d :: r, _ =>
    have : decide (((a :: b :: c :: d :: r).length : Int) = 3) = false := decide_eq_false (by simp; omega)
    rw [this]
    rfl
  | [a, b, c], hp =>
    have h2 : lidx [a, b, c] 2 = some c := rfl
    have h1 : lidx [a, b, c] 1 = some b := rfl
    have h0 : lidx [a, b, c] 0 = some a := rfl
    have h3 : decide ((([a, b, c] : List Str).length : Int) = 3) = true := rfl
    have hc := hp c (by simp)
    simp only [h0, h1, h2, h3, Option.bind_some, Bool.not_true, cond_f]
    by_cases hz : c = []
    · simp [hz]
    · rw [decide_eq_false hz, cond_f, L_Split_eq 44 (by omega), if_neg hz]
      rfl

theorem F39_eq {s : Str} (c : UInt8) (hs : s.length ≤ 4294967290) : F39 s (c.toNat : Int) = some (parts c s) := by
  unfold F39
  have key := iter_big (body := F39_b1 s (c.toNat : Int)) (fun x : Int × Int × List Str => ∃ f i : Nat, x.1 = f ∧ x.2.1 = i ∧ x.2.2.length ≤ f ∧ ((i ≤ s.length ∧ f ≤ i ∧ x.2.2 ++ parts c (s.drop f) = parts c s ∧ ∀ j, f ≤ j → j < i → s.getD j 0 ≠ c) ∨ (i = s.length + 1 ∧ f ≤ s.length + 1 ∧ x.2.2 = parts c s)))
    (fun x => s.length + 1 - x.2.1.toNat) (fun _ => some (parts c s)) (fun again x hx ih => ?_) (0, 0, []) ⟨0, 0, rfl, rfl, Nat.le_refl _, .inl ⟨Nat.zero_le _, Nat.le_refl _, rfl, fun j _ hj => absurd hj (Nat.not_lt_zero j)⟩⟩ (by simp; omega)
  · exact key
  obtain ⟨f', i', ps⟩ := x
  obtain ⟨f, i, rfl, rfl, hpl, hinv⟩ := hx
  simp only at hpl hinv ih
  rw [F39_b1]
  by_cases hle : i ≤ s.length
  · obtain ⟨_, hfi, happ, hno⟩ := hinv.resolve_right (fun h => by omega)
    rw [decide_eq_true (by omega), cond_t]
    have hw : IntKind.wrap .i64 ((i : Int) + 1) = ((i + 1 : Nat) : Int) := by rw [wrap64 (by omega) (by omega)]; simp
    have hsl : sslice s (f : Int) (i : Int) = some ((s.drop f).take (i - f)) := by
      unfold sslice
      rw [if_pos ⟨by omega, by omega, by omega⟩]
      simp
    have hap : appO 16 ps [(s.drop f).take (i - f)] = some (ps ++ [(s.drop f).take (i - f)]) := appO_eq (by simp only [List.length_singleton]; omega)
    by_cases hil : i = s.length
    · rw [decide_eq_true (by omega)]
      simp only [Bool.not_true, guardO_false, Option.bind_some, Bool.true_or, cond_t, hsl, hap, hw]
      refine ih _ ⟨i + 1, i + 1, rfl, rfl, by simp; omega, .inr ⟨by omega, by omega, ?_⟩⟩ (by simp; omega)
      rw [← happ, parts_last (s.drop f) (fun j hj => ?_), List.take_of_length_le (by simp; omega)]
      have hj' : f + j < s.length := by simp at hj; omega
      have := hno (f + j) (by omega) (by omega)
      simpa [List.getElem?_drop] using this
    · have hlt : i < s.length := by omega
      rw [decide_eq_false (by omega)]
      simp only [Bool.not_false, guardO_true, sidx_at hlt, Option.bind_some, Bool.false_or, byte_eq]
      have hg : s.getD i 0 = s[i] := by simp [hlt]
      by_cases hc : s[i] = c
      · rw [decide_eq_true hc, cond_t]
        simp only [hsl, hap, hw, Option.bind_some]
        refine ih _ ⟨i + 1, i + 1, rfl, rfl, by simp; omega, .inl ⟨by omega, Nat.le_refl _, ?_, fun j h1 h2 => by omega⟩⟩ (by simp; omega)
        rw [← happ, parts_hit (i - f) (s.drop f) (by simp; omega) (fun j hj => ?_) ?_, List.append_assoc, List.drop_drop, show f + (i - f + 1) = i + 1 by omega]
        · rfl
        · have : f + (i - f) = i := by omega
          rw [hc] at hg
          simpa [List.getElem?_drop, this] using hg
        · have := hno (f + j) (by omega) (by omega)
          simpa [List.getElem?_drop] using this
      · rw [decide_eq_false hc, cond_f, hw]
        refine ih _ ⟨f, i + 1, rfl, rfl, hpl, .inl ⟨by omega, by omega, happ, fun j h1 h2 => ?_⟩⟩ (by simp; omega)
        rcases Nat.lt_or_ge j i with h | h
        · exact hno j h1 h
        · have : j = i := by omega
          rw [this, hg]
          exact hc
  · rcases hinv with ⟨h, _⟩ | ⟨_, _, hps⟩
    · exact absurd h hle
    · rw [decide_eq_false (by omega), cond_f, hps]

theorem F40_eq {s : Str} (hs : s.length ≤ 4294967280) : F40 s = some (if (lineU s).2 then lineU s else (⟨[], [], []⟩, false)) := by
  have hp := parts_mem_len 58 s
  have h58 := F39_eq (s := s) 58 (by omega)
  unfold F40 lineU
  rw [show F39 s 58 = _ from h58]
  simp only [Option.bind_some]
  match hq : parts 58 s, hp with
  | [], _ => rfl
  | [a], _ => rfl
  | [a, b], _ => rfl
  | a :: b :: c :: d :: r, _ =>
    have : decide (((a :: b :: c :: d :: r).length : Int) = 3) = false := decide_eq_false (by simp; omega)
    rw [this]
    rfl
  | [a, b, c], hp =>
    have h2 : lidx [a, b, c] 2 = some c := rfl
    have h1 : lidx [a, b, c] 1 = some b := rfl
    have h0 : lidx [a, b, c] 0 = some a := rfl
    have h3 : decide ((([a, b, c] : List Str).length : Int) = 3) = true := rfl
    have hc := hp c (by simp)
    simp only [h0, h1, h2, h3, Option.bind_some, Bool.not_true, cond_f]
    by_cases hz : c = []
    · simp [hz]
    · have h44 := F39_eq (s := c) 44 (by omega)
      rw [decide_eq_false hz, cond_f, show F39 c 44 = _ from h44, if_neg hz]
      simp only [Option.bind_some]
      have hlen := parts_len 44 c
      rw [iter_range (body := F40_b1 (parts 44 c) a b) (parts 44 c) (fun w _ n => bif decide (w = []) then some (User.mk [] [] [], false) else n) (some (User.mk a b (parts 44 c), true)) (fun _ _ => rfl) (by omega)]
      have : ∀ (ws : List Str) (i : Int) (r : User × Bool), loopR (fun w _ n => bif decide (w = []) then some (User.mk [] [] [], false) else n) (some r) ws i = some (if (ws.any fun m => decide (m = [])) = true then (User.mk [] [] [], false) else r) := by
        intro ws
        induction ws with
        | nil => intro i r; rfl
        | cons w ws ih =>
          intro i r
          simp only [loopR, ih, List.any_cons]
          by_cases hw : w = [] <;> simp [hw]
      rw [this]
      cases (parts 44 c).any fun m => decide (m = []) <;> rfl

/-- What parsing returns, from some parts on. -/
def fin (n : Int) (acc : List User) : List User × Int × Int := bif !decide (check acc = 0) then ([], n, check acc) else (acc, 0, 0)
def plines : List Str → Int → List User → List User × Int × Int
  | [], n, acc => fin n acc
  | [x], n, acc => if x = [] then fin n acc else ([], n, 2)
  | x :: y :: r, n, acc => if (lineU x).2 = true then plines (y :: r) (n + 1) (acc ++ [(lineU x).1]) else ([], n, 2)
def parse (s : Str) : List User × Int × Int := plines (parts 10 s) 0 []

theorem plines_cons {x : Str} {ps : List Str} (h : ps ≠ []) (n : Int) (acc : List User) : plines (x :: ps) n acc = if (lineU x).2 = true then plines ps (n + 1) (acc ++ [(lineU x).1]) else ([], n, 2) := by
  cases ps with
  | nil => exact absurd rfl h
  | cons y r => rfl

theorem lineU_members {s : Str} (u : User) (b : Bool) (h : lineU s = (u, b)) : u.members_.length ≤ s.length + 1 ∧ u.name_.length ≤ s.length ∧ u.leader_.length ≤ s.length := by
  have hp := parts_mem_len 58 s
  unfold lineU at h
  split at h
  · rename_i x y z hq
    rw [hq] at hp
    have h1 := hp x (by simp)
    have h2 := hp y (by simp)
    have h3 := hp z (by simp)
    split at h
    · cases h
      exact ⟨Nat.zero_le _, h1, h2⟩
    · cases h
      have := parts_len 44 z
      exact ⟨by simp only; omega, h1, h2⟩
  · cases h
    exact ⟨Nat.zero_le _, Nat.zero_le _, Nat.zero_le _⟩

theorem F25_eq {s : Str} (hs : s.length ≤ 1000000) : F25 s = some (parse s) := by
  unfold F25 parse
  have key := iter_big (body := F25_b1) (fun x : Str × Int × List User => ∃ n : Nat, x.2.1 = n ∧ x.2.2.length = n ∧ n + x.1.length ≤ 1000000 ∧ ∀ u ∈ x.2.2, u.members_.length ≤ 4611686018427387904)
    (fun x => x.1.length) (fun x => some (plines (parts 10 x.1) x.2.1 x.2.2)) (fun again x hx ih => ?_) (s, 0, []) ⟨0, rfl, rfl, by simpa using hs, fun u hu => by cases hu⟩ (by simp only; omega)
  · exact key
  obtain ⟨r, n', acc⟩ := x
  obtain ⟨n, rfl, hn, hlen, hm⟩ := hx
  simp only at hn hlen hm ih ⊢
  rw [F25_b1]
  simp only
  by_cases hr : r = []
  · subst hr
    rw [decide_eq_true rfl]
    simp only [Bool.not_true, cond_f, F16_eq hm, Option.bind_some]
    show _ = some (plines [[]] _ _)
    simp only [plines, if_true, fin]
    cases (!decide (check acc = 0)) <;> rfl
  · rw [decide_eq_false hr]
    simp only [Bool.not_false, cond_t]
    have hcut : L_Cut r [10] = some (Lib.cut r [10]) := if_pos (by omega)
    rw [hcut]
    simp only [Option.bind_some]
    rcases cut_parts 10 r with ⟨h1, h2⟩ | ⟨a, b, h1, h2, h3, h4⟩
    · rw [h1, h2]
      simp only [F38_eq (show r.length ≤ 4294967280 by omega), Option.bind_some, Bool.not_false, Bool.or_true, cond_t, plines, if_neg hr]
    · rw [h1, h2]
      simp only [F38_eq (show a.length ≤ 4294967280 by omega), Option.bind_some, Bool.not_true, Bool.or_false]
      have hne : parts 10 b ≠ [] := by
        obtain ⟨p, ps, h⟩ := parts_ne 10 b
        rw [h]
        simp
      rw [plines_cons hne]
      cases hok : (lineU a).2 with
      | false => rfl
      | true =>
        rw [if_pos rfl]
        simp only [Bool.not_true, cond_f]
        rw [appO_eq (by simp only [List.length_singleton, hn]; omega)]
        simp only [Option.bind_some]
        rw [wrap64 (by omega) (by omega)]
        have := ih (b, (n : Int) + 1, acc ++ [(lineU a).1]) ⟨n + 1, by simp, by simp [hn], by simp only; omega, fun u hu => ?_⟩ (by simp only; omega)
        · exact this
        · simp only [List.mem_append, List.mem_singleton] at hu
          rcases hu with hu | rfl
          · exact hm u hu
          · have := (lineU_members (s := a) (lineU a).1 (lineU a).2 rfl).1
            omega

theorem F26_eq {s : Str} (hs : s.length ≤ 1000000) : F26 s = some (parse s) := by
  have hlen := parts_len 10 s
  have hmem := parts_mem_len 10 s
  have h10 := F39_eq (s := s) 10 (by omega)
  unfold F26 parse
  rw [show F39 s 10 = _ from h10]
  simp only [Option.bind_some]
  obtain ⟨p0, ps0, hp0⟩ := parts_ne 10 s
  have hpos : 1 ≤ (parts 10 s).length := by rw [hp0]; simp
  have hlast : IntKind.wrap .i64 (((parts 10 s).length : Int) - 1) = (((parts 10 s).length - 1 : Nat) : Int) := by rw [wrap64 (by omega) (by omega)]; omega
  have key : ∀ (n : Nat) (ps pre : List Str) (acc : List User), parts 10 s = pre ++ ps → ps ≠ [] → ps.length < n → acc.length = pre.length → (∀ u ∈ acc, u.members_.length ≤ 4611686018427387904) → iter (F26_b1 (parts 10 s)) n ((pre.length : Int), acc) = some (plines ps (pre.length : Int) acc) := by
    intro n
    induction n with
    | zero => intro ps pre acc _ _ h; omega
    | succ n ih =>
      intro ps pre acc hl hne hn hacc hm
      show F26_b1 (parts 10 s) (iter (F26_b1 (parts 10 s)) n) ((pre.length : Int), acc) = _
      rw [F26_b1]
      simp only
      rw [hlast]
      match ps, hne with
      | [x], _ =>
        have e : (parts 10 s).length = pre.length + 1 := by rw [hl]; simp
        have e2 : (parts 10 s).length - 1 = pre.length := by omega
        rw [e2, decide_eq_false (by omega), cond_f, lidx_nat]
        have hx : (parts 10 s)[pre.length]? = some x := by rw [hl]; simp
        rw [hx]
        simp only [Option.bind_some, plines]
        by_cases hz : x = []
        · rw [decide_eq_true hz, if_pos hz]
          simp only [Bool.not_true, cond_f, F17_eq hm, Option.bind_some, fin]
          cases (!decide (check acc = 0)) <;> rfl
        · rw [decide_eq_false hz, if_neg hz]
          rfl
      | x :: y :: r, _ =>
        have e : (parts 10 s).length = pre.length + (r.length + 2) := by rw [hl]; simp
        rw [decide_eq_true (by omega), cond_t, lidx_nat]
        have hx : (parts 10 s)[pre.length]? = some x := by rw [hl]; simp
        have hxl : x.length ≤ s.length := hmem x (by rw [hl]; simp)
        rw [hx]
        simp only [Option.bind_some, F40_eq (show x.length ≤ 4294967280 by omega), plines]
        cases hok : (lineU x).2 with
        | false => rfl
        | true =>
          simp only [if_true, hok, Bool.not_true, cond_f]
          rw [appO_eq (by simp only [List.length_singleton, hacc]; omega)]
          simp only [Option.bind_some]
          rw [wrap64 (by omega) (by omega)]
          have := ih (y :: r) (pre ++ [x]) (acc ++ [(lineU x).1]) (by simp [hl]) (by simp) (by simp at hn ⊢; omega) (by simp [hacc]) (fun u hu => ?_)
          · simpa using this
          · simp only [List.mem_append, List.mem_singleton] at hu
            rcases hu with hu | rfl
            · exact hm u hu
            · have := (lineU_members (s := x) (lineU x).1 (lineU x).2 rfl).1
              omega
  have := key BIG (parts 10 s) [] [] rfl (by rw [hp0]; simp) (by unfold BIG; omega) rfl (fun u hu => by cases hu)
  simpa using this

end Go.Abs.U05
