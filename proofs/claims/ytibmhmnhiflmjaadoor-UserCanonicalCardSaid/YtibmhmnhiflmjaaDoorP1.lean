/- The layer 5 laws, in plain Lean: names, places, the checks. -/
import Derived.Test.YtibmhmnhiflmjaaDoorA34
import Derived.Test.YtibmhmnhiflmjaaDoorD1
namespace Go.Abs.U05
open Go

/-! ### Valid -/

def bad (c i : Int) : Bool := !(decide (97 ≤ c) && decide (c ≤ 122)) && (decide (i = 0) || !(((decide (48 ≤ c) && decide (c ≤ 57)) || decide (c = 45)) || decide (c = 95)))
def vl : List Int → Int → Bool
  | [], _ => true
  | c :: cs, i => !bad c i && vl cs (i + 1)
def valid (s : Str) : Bool := !(decide (s = []) || decide (32 < (s.length : Int))) && vl (s.map B) 0

theorem loop_vl (G : Int → Int → Option Bool → Option Bool) (hG : ∀ c i n, G c i n = bif bad c i then some false else n) : ∀ (l : List Int) (i : Int), loopR G (some true) l i = some (vl l i)
  | [], _ => rfl
  | c :: l, i => by
    simp only [loopR, hG, vl, loop_vl G hG l (i + 1)]
    cases bad c i <;> rfl

theorem F11_eq (s : Str) : F11 s = some (valid s) := by
  unfold F11 valid
  cases h : (decide (s = []) || decide (32 < (s.length : Int))) with
  | true => rfl
  | false =>
    simp only [Bool.or_eq_false_iff, decide_eq_false_iff_not] at h
    rw [cond_f, iter_rangeB (body := F11_b1 s) s (fun c i n => bif bad c i then some false else n) (some true) (fun _ _ => rfl) (by omega), loop_vl _ (fun _ _ _ => rfl)]
    rfl

theorem F12_eq (s : Str) : F12 s = some (valid s) := by
  have h0 : decide ((s.length : Int) < 1) = decide (s = []) := by
    cases s with
    | nil => rfl
    | cons x r =>
      rw [decide_eq_false (by simp only [List.length_cons]; omega), decide_eq_false (by simp)]
  unfold F12 valid
  rw [h0]
  cases h : (decide (s = []) || decide (32 < (s.length : Int))) with
  | true => rfl
  | false =>
    simp only [Bool.or_eq_false_iff, decide_eq_false_iff_not] at h
    rw [cond_f, iter_rangeB (body := F12_b1 s) s (fun c i n => bif (!(decide (97 ≤ c) && decide (c ≤ 122)) && (decide (i = 0) || ((!(decide (48 ≤ c) && decide (c ≤ 57)) && !decide (c = 45)) && !decide (c = 95)))) then some false else n) (some true) (fun _ _ => rfl) (by omega), loop_vl _ (fun c i n => ?_)]
    · rfl
    · unfold bad
      rw [Bool.not_or, Bool.not_or]

theorem vl_mem : ∀ (l : List Int) (i : Int), vl l i = true → ∀ c ∈ l, ¬ (c = 58 ∨ c = 44 ∨ c = 10)
  | [], _, _, c, hc => by cases hc
  | x :: l, i, h, c, hc => by
    simp only [vl, Bool.and_eq_true, Bool.not_eq_true'] at h
    rcases List.mem_cons.1 hc with rfl | hc
    · intro h58
      have hb := h.1
      unfold bad at hb
      rcases h58 with rfl | rfl | rfl <;> simp at hb
    · exact vl_mem l (i + 1) h.2 c hc

theorem valid_chars {s : Str} (h : valid s = true) {c : UInt8} (hc : c ∈ s) : c ≠ 58 ∧ c ≠ 44 ∧ c ≠ 10 := by
  unfold valid at h
  simp only [Bool.and_eq_true] at h
  have h1 := vl_mem _ _ h.2 (B c) (List.mem_map.2 ⟨c, hc, rfl⟩)
  refine ⟨?_, ?_, ?_⟩ <;> (rintro rfl; exact h1 (by decide))

theorem valid_ne {s : Str} (h : valid s = true) : s ≠ [] := by
  rintro rfl
  simp [valid] at h

/-! ### Small lists -/

def shortS : List Str → Bool
  | [] => true
  | w :: ws => !decide (200 < (w.length : Int)) && shortS ws
def smallL : List User → Bool
  | [] => true
  | u :: us => !((decide (30 < (u.members_.length : Int)) || decide (200 < (u.name_.length : Int))) || decide (200 < (u.leader_.length : Int))) && shortS u.members_ && smallL us
def small (l : List User) : Bool := !decide (70 < (l.length : Int)) && smallL l

theorem loop_short (next : Option Bool) : ∀ (ws : List Str) (i : Int), loopR (fun w _ n => bif decide (200 < (w.length : Int)) then some false else n) next ws i = bif shortS ws then next else some false
  | [], _ => rfl
  | w :: ws, i => by
    simp only [loopR, shortS, loop_short next ws]
    cases decide (200 < (w.length : Int)) <;> rfl

theorem F13_eq (l : List User) : F13 l = some (small l) := by
  unfold F13 small
  cases h : decide (70 < (l.length : Int)) with
  | true => rfl
  | false =>
    simp only [decide_eq_false_iff_not] at h
    rw [cond_f, iter_range (body := F13_b2 l) l (fun u i next => bif ((decide (30 < (u.members_.length : Int)) || decide (200 < (u.name_.length : Int))) || decide (200 < (u.leader_.length : Int))) then some false
      else iter (fun (again14 : Int → Option Bool) i13 => bif decide (i13 < (u.members_.length : Int)) then (lidx u.members_ i13).bind fun w18 => (bif decide (200 < (w18.length : Int)) then some false else again14 (IntKind.wrap .i64 (i13 + 1))) else next) BIG 0)
      (some true) (fun _ _ => rfl) (by omega)]
    have : ∀ (l : List User) (i : Int), loopR (fun u i next => bif ((decide (30 < (u.members_.length : Int)) || decide (200 < (u.name_.length : Int))) || decide (200 < (u.leader_.length : Int))) then some false
      else iter (fun (again14 : Int → Option Bool) i13 => bif decide (i13 < (u.members_.length : Int)) then (lidx u.members_ i13).bind fun w18 => (bif decide (200 < (w18.length : Int)) then some false else again14 (IntKind.wrap .i64 (i13 + 1))) else next) BIG 0)
      (some true) l i = some (smallL l) := by
      intro l
      induction l with
      | nil => intro i; rfl
      | cons u l ih =>
        intro i
        simp only [loopR, smallL, ih]
        cases hc : ((decide (30 < (u.members_.length : Int)) || decide (200 < (u.name_.length : Int))) || decide (200 < (u.leader_.length : Int))) with
        | true => rfl
        | false =>
          simp only [Bool.or_eq_false_iff, decide_eq_false_iff_not] at hc
          rw [cond_f, iter_range u.members_ (fun w _ n => bif decide (200 < (w.length : Int)) then some false else n) _ (fun _ _ => rfl) (by omega), loop_short]
          cases shortS u.members_ <;> cases smallL l <;> rfl
    rw [this]
    rfl

theorem shortS_mem : ∀ {ws : List Str}, shortS ws = true → ∀ w ∈ ws, w.length ≤ 200
  | [], _, w, hw => by cases hw
  | x :: ws, h, w, hw => by
    simp only [shortS, Bool.and_eq_true, Bool.not_eq_true', decide_eq_false_iff_not] at h
    rcases List.mem_cons.1 hw with rfl | hw
    · omega
    · exact shortS_mem h.2 w hw

theorem smallL_mem : ∀ {l : List User}, smallL l = true → ∀ u ∈ l, u.members_.length ≤ 30 ∧ u.name_.length ≤ 200 ∧ u.leader_.length ≤ 200 ∧ ∀ w ∈ u.members_, w.length ≤ 200
  | [], _, u, hu => by cases hu
  | x :: l, h, u, hu => by
    simp only [smallL, Bool.and_eq_true, Bool.not_eq_true', Bool.or_eq_false_iff, decide_eq_false_iff_not] at h
    rcases List.mem_cons.1 hu with rfl | hu
    · exact ⟨by omega, by omega, by omega, shortS_mem h.1.2⟩
    · exact smallL_mem h.2 u hu

theorem small_len {l : List User} (h : small l = true) : l.length ≤ 70 ∧ smallL l = true := by
  simp only [small, Bool.and_eq_true, Bool.not_eq_true', decide_eq_false_iff_not] at h
  exact ⟨by omega, h.2⟩

/-! ### Places -/

def has (l : List User) (s : Str) : Bool := l.any fun u => decide (u.name_ = s)
def atL (s : Str) : List User → Int → Int
  | [], _ => -1
  | u :: us, i => bif decide (u.name_ = s) then i else atL s us (i + 1)

theorem F35_eq {l : List User} (hl : l.length ≤ 4611686018427387904) (s : Str) : F35 l s = some (atL s l 0) := by
  unfold F35
  rw [iter_range (body := F35_b1 l s) l (fun u i n => bif decide (u.name_ = s) then some i else n) (some (-1)) (fun _ _ => rfl) hl]
  have : ∀ (l : List User) (i : Int), loopR (fun u i n => bif decide (u.name_ = s) then some i else n) (some (-1)) l i = some (atL s l i) := by
    intro l
    induction l with
    | nil => intro i; rfl
    | cons u l ih =>
      intro i
      simp only [loopR, atL, ih]
      cases decide (u.name_ = s) <;> rfl
  exact this l 0

theorem atL_none (s : Str) : ∀ (l : List User) (i : Int), has l s = false → atL s l i = -1
  | [], _, _ => rfl
  | u :: l, i, h => by
    simp only [has, List.any_cons, Bool.or_eq_false_iff] at h
    simp only [atL, h.1, cond_f]
    exact atL_none s l (i + 1) h.2

theorem atL_some (s : Str) : ∀ (l : List User) (i : Int), has l s = true → ∃ j : Nat, ∃ u, atL s l i = i + j ∧ l[j]? = some u ∧ u.name_ = s ∧ has (l.take j) s = false
  | [], _, h => by simp [has] at h
  | u :: l, i, h => by
    by_cases hu : u.name_ = s
    · exact ⟨0, u, by simp [atL, hu], rfl, hu, rfl⟩
    · simp only [has, List.any_cons, Bool.or_eq_true, decide_eq_true_eq] at h
      obtain ⟨j, v, h1, h2, h3, h4⟩ := atL_some s l (i + 1) (h.resolve_left hu)
      refine ⟨j + 1, v, ?_, by simpa using h2, h3, ?_⟩
      · simp only [atL, decide_eq_false hu, cond_f, h1]
        omega
      · simp only [has, List.take_succ_cons, List.any_cons, Bool.or_eq_false_iff]
        exact ⟨decide_eq_false hu, h4⟩

theorem at_neg (l : List User) (s : Str) : decide (atL s l 0 < 0) = !has l s := by
  cases h : has l s with
  | false => rw [atL_none s l 0 h]; rfl
  | true =>
    obtain ⟨j, u, h1, _⟩ := atL_some s l 0 h
    rw [h1, decide_eq_false (by omega)]
    rfl

theorem has_append (a b : List User) (s : Str) : has (a ++ b) s = (has a s || has b s) := by simp [has]

theorem at_lt (pre : List User) (u : User) (post : List User) : decide (atL u.name_ (pre ++ u :: post) 0 < (pre.length : Int)) = has pre u.name_ := by
  have h : has (pre ++ u :: post) u.name_ = true := by
    rw [has_append]
    simp [has]
  obtain ⟨j, v, h1, h2, h3, h4⟩ := atL_some u.name_ _ 0 h
  rw [h1]
  by_cases hj : j < pre.length
  · rw [decide_eq_true (by omega)]
    rw [List.getElem?_append_left hj] at h2
    exact (List.any_eq_true.2 ⟨v, List.mem_of_getElem? h2, by simpa using h3⟩).symm
  · rw [decide_eq_false (by omega)]
    rw [List.take_append, has_append] at h4
    simp only [Bool.or_eq_false_iff] at h4
    have h5 := h4.1
    rw [List.take_of_length_le (by omega)] at h5
    exact h5.symm

/-! ### The checks -/

/-- The members: present, and each less than the next. -/
def memR (f : Str → Bool) : Option Str → List Str → Bool
  | _, [] => true
  | p, w :: ws => f w && (match p with | none => true | some q => Op.bytesLess q w) && memR f (some w) ws
def memOk (l : List User) (ms : List Str) : Bool := memR (has l) none ms

theorem memR_congr {f g : Str → Bool} (h : ∀ s, f s = g s) : ∀ (p : Option Str) (ws : List Str), memR f p ws = memR g p ws
  | _, [] => rfl
  | p, w :: ws => by simp only [memR, h w, memR_congr h (some w) ws]

theorem mem_loop (ms : List Str) (hl : ms.length ≤ 4611686018427387904) (f : Str → Bool) (fin : Option Int) (G : Str → Int → Option Int → Option Int)
    (hG : ∀ (w : Str) (pre : List Str) (post : List Str) (n : Option Int), ms = pre ++ w :: post → G w pre.length n = bif f w && (match pre.getLast? with | none => true | some q => Op.bytesLess q w) then n else some 26) :
    ∀ (ws pre : List Str), ms = pre ++ ws → loopR G fin ws pre.length = bif memR f pre.getLast? ws then fin else some 26
  | [], _, _ => rfl
  | w :: ws, pre, h => by
    have ih := mem_loop ms hl f fin G hG ws (pre ++ [w]) (by simp [h])
    have e1 : ((pre ++ [w]).length : Int) = (pre.length : Int) + 1 := by simp
    rw [e1] at ih
    simp only [loopR, memR, hG w pre ws _ h, ih]
    rw [List.getLast?_append]
    simp only [List.getLast?_singleton, Option.some_or]
    generalize memR f (some w) ws = b
    cases f w <;> cases (match pre.getLast? with | none => true | some q => Op.bytesLess q w) <;> cases b <;> rfl

theorem prev_at {ms pre post : List Str} {w : Str} (h : ms = pre ++ w :: post) (hl : ms.length ≤ 4611686018427387904) :
    (∃ q, pre.getLast? = some q ∧ 0 < pre.length ∧ lidx ms (IntKind.wrap .i64 ((pre.length : Int) - 1)) = some q) ∨ (pre = [] ∧ decide ((0 : Int) < (pre.length : Int)) = false) := by
  cases hp : pre.getLast? with
  | none => exact .inr ⟨List.getLast?_eq_none_iff.1 hp, by rw [List.getLast?_eq_none_iff.1 hp]; rfl⟩
  | some q =>
    obtain ⟨ys, rfl⟩ := List.getLast?_eq_some_iff.1 hp
    refine .inl ⟨q, rfl, by simp, ?_⟩
    have hlen : ms.length = ys.length + 1 + (post.length + 1) := by rw [h]; simp; omega
    have e : (((ys ++ [q]).length : Nat) : Int) - 1 = ((ys.length : Nat) : Int) := by simp
    rw [e, wrap64 (by omega) (by omega), lidx_nat, h]
    simp

theorem F32_eq (ms : List Str) (hl : ms.length ≤ 4611686018427387904) (m : List (Str × Int)) : F32 ms m = some (bif memR (fun s => !decide (mget m s = 0)) none ms then 0 else 26) := by
  unfold F32
  rw [iter_range (body := F32_b1 ms m) ms (fun w i n => bif decide (mget m w = 0) then some 26 else (guardO (decide (0 < i)) (lidx ms (IntKind.wrap .i64 (i - 1)))).bind fun p => bif (decide (0 < i) && !Op.bytesLess p w) then some 26 else n) (some 0) (fun _ _ => rfl) hl]
  refine (mem_loop ms hl (fun s => !decide (mget m s = 0)) (some 0) _ (fun w pre post n h => ?_) ms [] rfl).trans ?_
  rotate_left
  · simp only [List.getLast?_nil]
    generalize memR (fun s => !decide (mget m s = 0)) none ms = b
    cases b <;> rfl
  · cases hz : decide (mget m w = 0) with
    | true => rfl
    | false =>
      rcases prev_at h hl with ⟨q, hq, hpos, hi⟩ | ⟨hnil, hd⟩
      · rw [hi, hq, decide_eq_true (by omega)]
        simp only [guardO_true, Option.bind_some, cond_f, Bool.not_false, Bool.true_and]
        cases Op.bytesLess q w <;> rfl
      · rw [hd, hnil]
        rfl

/-- The error of a user behind others. -/
def err (all pre : List User) (u : User) : Int :=
  bif !valid u.name_ then 25
  else bif has pre u.name_ then 7
  else bif !decide (u.leader_ = []) && !has all u.leader_ then 26
  else bif memOk all u.members_ then 0 else 26
def checkL (all : List User) : List User → List User → Int
  | _, [] => 0
  | pre, u :: us => bif !decide (err all pre u = 0) then err all pre u else checkL all (pre ++ [u]) us
def check (l : List User) : Int := bif decide (64 < (l.length : Int)) then 22 else checkL l [] l

theorem F33_eq {l pre post : List User} {u : User} (h : l = pre ++ u :: post) (hl : l.length ≤ 4611686018427387904) (hm : u.members_.length ≤ 4611686018427387904) : F33 l (pre.length : Int) = some (err l pre u) := by
  unfold F33 err
  have h0 : lidx l (pre.length : Int) = some u := by
    rw [lidx_nat, h]
    simp
  rw [h0]
  simp only [Option.bind_some, F12_eq]
  cases hv : valid u.name_ with
  | false => rfl
  | true =>
    simp only [Bool.not_true, cond_f, F35_eq hl, Option.bind_some]
    have e : decide (atL u.name_ l 0 < (pre.length : Int)) = has pre u.name_ := by
      rw [h]
      exact at_lt pre u post
    rw [e]
    cases hp : has pre u.name_ with
    | true => rfl
    | false =>
      simp only [cond_f]
      have hmem : iter (F33_b1 u l) BIG 0 = some (bif memOk l u.members_ then 0 else 26) := by
        rw [iter_range (body := F33_b1 u l) u.members_ (fun w i n => (F35 l w).bind fun r => (guardO (!(decide (r < 0)) && decide (0 < i)) (lidx u.members_ (IntKind.wrap .i64 (i - 1)))).bind fun p => bif (decide (r < 0) || (decide (0 < i) && !Op.bytesLess p w)) then some 26 else n) (some 0) (fun _ _ => rfl) hm]
        refine (mem_loop u.members_ hm (has l) (some 0) _ (fun w pre post n h => ?_) u.members_ [] rfl).trans ?_
        rotate_left
        · simp only [List.getLast?_nil]
          unfold memOk
          generalize memR (has l) none u.members_ = b
          cases b <;> rfl
        · simp only [F35_eq hl, Option.bind_some, at_neg]
          cases hz : has l w with
          | false => rfl
          | true =>
            rcases prev_at h hm with ⟨q, hq, hpos, hi⟩ | ⟨hnil, hd⟩
            · rw [hi, hq, decide_eq_true (by omega)]
              simp only [Bool.not_true, Bool.not_false, Bool.true_and, guardO_true, Option.bind_some, Bool.false_or]
              cases Op.bytesLess q w <;> rfl
            · rw [hd, hnil]
              rfl
      rw [hmem]
      cases hz : decide (u.leader_ = []) with
      | true => rfl
      | false =>
        simp only [Bool.not_false, guardO_true, Option.bind_some, Bool.true_and, at_neg]
        cases has l u.leader_ <;> rfl

theorem F17_eq {l : List User} (hm : ∀ u ∈ l, u.members_.length ≤ 4611686018427387904) : F17 l = some (check l) := by
  unfold F17 check
  cases h : decide (64 < (l.length : Int)) with
  | true => rfl
  | false =>
    simp only [decide_eq_false_iff_not] at h
    rw [cond_f, cond_f]
    have hlen : l.length ≤ 4611686018427387904 := by omega
    have key : ∀ (n : Nat) (us pre : List User), l = pre ++ us → us.length < n → iter (F17_b1 l) n (pre.length : Int) = some (checkL l pre us) := by
      intro n
      induction n with
      | zero => intro us pre _ h; omega
      | succ n ih =>
        intro us pre hl hn
        show F17_b1 l (iter (F17_b1 l) n) (pre.length : Int) = _
        rw [F17_b1]
        cases us with
        | nil =>
          rw [decide_eq_false (by rw [hl]; simp)]
          rfl
        | cons u us =>
          rw [decide_eq_true (by rw [hl]; simp; omega), cond_t, F33_eq hl hlen (hm u (by rw [hl]; simp))]
          simp only [Option.bind_some, checkL]
          cases hz : (!decide (err l pre u = 0)) with
          | true => rfl
          | false =>
            rw [cond_f, cond_f, wrap64 (by omega) (by have : pre.length < l.length := by rw [hl]; simp
                                                      omega)]
            have := ih us (pre ++ [u]) (by simp [hl]) (by simp at hn; omega)
            simpa using this
    have := key BIG l [] rfl (by unfold BIG; omega)
    simpa using this

/-- The counts of the names of some users. -/
def Counts (l : List User) (m : List (Str × Int)) : Prop := ∀ s, 0 ≤ mget m s ∧ mget m s ≤ l.length ∧ decide (mget m s = 0) = !has l s

theorem counts_nil : Counts [] [] := fun s => by simp [mget, has]

theorem counts_next {l : List User} {m : List (Str × Int)} (h : Counts l m) (u : User) : Counts (l ++ [u]) (mput m u.name_ (mget m u.name_ + 1)) := by
  intro s
  obtain ⟨h1, h2, h3⟩ := h s
  rw [mget_mput, has_append]
  have e : has [u] s = decide (u.name_ = s) := by simp [has]
  rw [e, List.length_append]
  by_cases hs : s = u.name_
  · subst hs
    rw [if_pos rfl]
    refine ⟨by omega, by simp; omega, ?_⟩
    rw [decide_eq_false (by omega)]
    simp
  · rw [if_neg hs]
    refine ⟨h1, by simp; omega, ?_⟩
    rw [h3, decide_eq_false (fun e => hs e.symm)]
    simp

theorem counts_pos {l : List User} {m : List (Str × Int)} (h : Counts l m) (s : Str) : decide (0 < mget m s) = has l s := by
  obtain ⟨h1, _, h3⟩ := h s
  by_cases h0 : mget m s = 0
  · rw [decide_eq_true h0] at h3
    rw [h0]
    cases hh : has l s with
    | true => rw [hh] at h3; cases h3
    | false => rfl
  · rw [decide_eq_false h0] at h3
    rw [decide_eq_true (show 0 < mget m s by omega)]
    cases hh : has l s with
    | true => rfl
    | false => rw [hh] at h3; cases h3

theorem F16_eq {l : List User} (hm : ∀ u ∈ l, u.members_.length ≤ 4611686018427387904) : F16 l = some (check l) := by
  unfold F16 check
  cases h : decide (64 < (l.length : Int)) with
  | true => rfl
  | false =>
    simp only [decide_eq_false_iff_not] at h
    rw [cond_f, cond_f]
    have hlen : l.length ≤ 4611686018427387904 := by omega
    rw [iter_rangeS (body := F16_b1 l) l (fun u _ k m => k (mput m u.name_ (IntKind.wrap .i64 ((mget m u.name_) + 1)))) (fun m => iter (F16_b2 l m) BIG (0, [])) (fun _ _ _ => rfl) hlen]
    have first : ∀ (us pre : List User) (i : Int) (m : List (Str × Int)), l = pre ++ us → Counts pre m → ∃ m', Counts l m' ∧ loopS (fun u _ k m => k (mput m u.name_ (IntKind.wrap .i64 ((mget m u.name_) + 1)))) (fun m => iter (F16_b2 l m) BIG (0, [])) us i m = iter (F16_b2 l m') BIG (0, []) := by
      intro us
      induction us with
      | nil =>
        intro pre i m hl hc
        have : l = pre := by simpa using hl
        exact ⟨m, this ▸ hc, rfl⟩
      | cons u us ih =>
        intro pre i m hl hc
        have hlp : pre.length < l.length := by rw [hl]; simp
        have hw : IntKind.wrap .i64 (mget m u.name_ + 1) = mget m u.name_ + 1 := by
          obtain ⟨h1, h2, _⟩ := hc u.name_
          exact wrap64 (by omega) (by omega)
        obtain ⟨m', h1, h2⟩ := ih (pre ++ [u]) (i + 1) (mput m u.name_ (mget m u.name_ + 1)) (by simp [hl]) (counts_next hc u)
        refine ⟨m', h1, ?_⟩
        simp only [loopS, hw]
        exact h2
    obtain ⟨m, hc, he⟩ := first l [] 0 [] rfl counts_nil
    rw [he]
    have hmem : ∀ ms, memR (fun s => !decide (mget m s = 0)) none ms = memOk l ms := fun ms => memR_congr (fun s => by rw [(hc s).2.2, Bool.not_not]) none ms
    have key : ∀ (n : Nat) (us pre : List User) (sm : List (Str × Int)), l = pre ++ us → us.length < n → Counts pre sm → iter (F16_b2 l m) n ((pre.length : Int), sm) = some (checkL l pre us) := by
      intro n
      induction n with
      | zero => intro us pre sm _ h; omega
      | succ n ih =>
        intro us pre sm hl hn hcs
        show F16_b2 l m (iter (F16_b2 l m) n) ((pre.length : Int), sm) = _
        rw [F16_b2]
        cases us with
        | nil =>
          rw [decide_eq_false (by rw [hl]; simp)]
          rfl
        | cons u us =>
          have h0 : lidx l (pre.length : Int) = some u := by
            rw [lidx_nat, hl]
            simp
          have hlp : pre.length < l.length := by rw [hl]; simp
          rw [decide_eq_true (by omega), cond_t, h0]
          simp only [Option.bind_some, F11_eq, checkL, counts_pos hcs, F32_eq _ (hm u (by rw [hl]; simp)), hmem]
          simp only [(hc _).2.2]
          have hw1 : IntKind.wrap .i64 (mget sm u.name_ + 1) = mget sm u.name_ + 1 := by
            obtain ⟨h1, h2, _⟩ := hcs u.name_
            exact wrap64 (by omega) (by omega)
          have hw2 : IntKind.wrap .i64 ((pre.length : Int) + 1) = (pre.length : Int) + 1 := wrap64 (by omega) (by omega)
          rw [hw1, hw2]
          have ih' := ih us (pre ++ [u]) (mput sm u.name_ (mget sm u.name_ + 1)) (by simp [hl]) (by simp at hn; omega) (counts_next hcs u)
          have e1 : ((pre ++ [u]).length : Int) = (pre.length : Int) + 1 := by simp
          rw [e1] at ih'
          rw [ih']
          unfold err
          cases valid u.name_ <;> cases has pre u.name_ <;> cases (!decide (u.leader_ = []) && !has l u.leader_) <;> cases memOk l u.members_ <;> rfl
    have := key BIG l [] [] rfl (by unfold BIG; omega) counts_nil
    simpa using this

end Go.Abs.U05
