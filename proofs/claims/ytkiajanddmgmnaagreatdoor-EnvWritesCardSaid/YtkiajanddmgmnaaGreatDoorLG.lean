/- The library: its functions, by the shelf's contracts. -/
import Derived.Test.YtkiajanddmgmnaaGreatDoorA33
import Derived.Test.YtkiajanddmgmnaaGreatDoorA41
import Derived.Test.YtkiajanddmgmnaaGreatDoorLB
import Derived.Test.YtkiajanddmgmnaaGreatDoorLI
import Derived.Test.YtkiajanddmgmnaaGreatDoorA46
import Derived.Test.YtkiajanddmgmnaaGreatDoorL2
set_option linter.unusedSimpArgs false
set_option linter.unusedVariables false
namespace Go.Abs.U2Z
open Go.RowKit Go.Proofs

theorem gi_max {w : World} (h : env.GI w) : ∃ m, w.cell? ⟨0, 0, none⟩ = some (.int .i64 m) := h

theorem below_id {Φ : Nat → Nat → Prop} {w : World} {rs : List PV} {us : List Value} {e : Ending} (he : e = .returned (retV us)) (hl : us.length = rs.length) (hΦ : ∀ b k, Φ b k → b < w.heap.size) (h : ∀ (i : Nat) u r, us[i]? = some u → rs[i]? = some r → Rep Φ w u r) :
    ∃ (us : List Value) (Φ' : Nat → Nat → Prop), e = .returned (retV us) ∧ us.length = rs.length ∧ Below w.heap.size w w ∧ (∀ b k, Φ b k → Φ' b k) ∧ (∀ b k, Φ' b k → b < w.heap.size → Φ b k) ∧ (∀ b k, Φ' b k → b < w.heap.size) ∧ ∀ (i : Nat) u r, us[i]? = some u → rs[i]? = some r → Rep Φ' w u r :=
  ⟨us, Φ, he, hl, Below.refl _ _, fun _ _ h => h, fun _ _ h _ => h, hΦ, h⟩

theorem one_rep {Φ : Nat → Nat → Prop} {w : World} {v : Value} {p : PV} (h : Rep Φ w v p) : ∀ (i : Nat) u r, [v][i]? = some u → [p][i]? = some r → Rep Φ w u r := by
  intro i u r hu hr
  match i, hu, hr with
  | 0, hu, hr => cases hu; cases hr; exact h

theorem flat_strs (xs : List Str) : flat (xs.map PV.str) = xs.map PV.str := by
  induction xs with
  | nil => rfl
  | cons x xs ih => rw [List.map_cons, flat_cons, ih]; rfl

/-- A row of strings in a new block. -/
theorem strs_new {Φ : Nat → Nat → Prop} {w : World} {b cap : Nat} (xs : List Str) (hc : xs.length ≤ cap) (hm : cap ≤ maxLen) (hcell : ∀ (k : Nat) x, xs[k]? = some x → Φ b k ∧ w.cell? ⟨b, k, none⟩ = some (.string ⟨⟨x⟩⟩)) : Rep Φ w (.slice (some ⟨b, 0, none⟩) xs.length cap) (.slice (xs.map PV.str)) := by
  refine .slice b 0 xs.length cap 1 (xs.map PV.str) (fun k => .string ⟨⟨xs.getD k []⟩⟩) (List.length_map _) hc hm (fun x hx => ?_) (fun c hc => ?_) (fun k hk => ?_) (fun k c hcc => ?_)
  · obtain ⟨y, _, rfl⟩ := List.mem_map.1 hx
    rfl
  · rw [flat_strs] at hc
    obtain ⟨y, _, rfl⟩ := List.mem_map.1 hc
    rfl
  · rw [flat_strs, List.length_map] at hk
    have := hcell k xs[k] (List.getElem?_eq_getElem hk)
    rw [Nat.zero_add, List.getD_eq_getElem?_getD, List.getElem?_eq_getElem hk]
    exact this
  · rw [flat_strs, List.getElem?_map] at hcc
    obtain ⟨y, hy, rfl⟩ := Option.map_eq_some_iff.1 hcc
    have : xs.getD k [] = y := by rw [List.getD_eq_getElem?_getD, hy]; rfl
    rw [this]
    exact .str y

theorem g_L_CloneE (xs l : List GEnv) (h : L_CloneE xs = some l) : Good env 59 [.pv (.slice (xs.map GEnv.pv))] [] [.vec 0 l.length] [.row 34 3 (l.map GEnv.pv) false] := by
  unfold L_CloneE at h
  split at h
  · rename_i hx
    cases h
    have := Good.cloneRow (E := env) (f := 59) (e := 34) (sz := 3) (bytes := 40) (by decide)
      (fun b off n c news w hl hn hb hc h1 => clone_env ⟨b, off, none⟩ n c news w hl hn hb (fun j u hu => by rw [Addr.add_lit]; exact hc j u hu) h1)
      (fun a c w => (clone_env a 0 c [] w rfl (Nat.zero_le _) (by omega) (fun j u hu => by simp at hu) (fun u hu => by cases hu)).mono fun e' w' ⟨v', h1, h2, _, h3⟩ => ⟨v', h1, h2, h3⟩)
      (fun n c w => clone_env_nil n c w) (xs.map GEnv.pv) (by rw [List.length_map]; omega) (fun x hx => by obtain ⟨y, _, rfl⟩ := List.mem_map.1 hx; rfl)
    rw [List.length_map] at this
    exact this
  · cases h

theorem g_L_CloneV (xs l : List Var) (h : L_CloneV xs = some l) : Good env 62 [.pv (.slice (xs.map Var.pv))] [] [.vec 0 l.length] [.row 37 3 (l.map Var.pv) false] := by
  unfold L_CloneV at h
  split at h
  · rename_i hx
    cases h
    have := Good.cloneRow (E := env) (f := 62) (e := 37) (sz := 3) (bytes := 48) (by decide)
      (fun b off n c news w hl hn hb hc h1 => clone_var ⟨b, off, none⟩ n c news w hl hn hb (fun j u hu => by rw [Addr.add_lit]; exact hc j u hu) h1)
      (fun a c w => (clone_var a 0 c [] w rfl (Nat.zero_le _) (by omega) (fun j u hu => by simp at hu) (fun u hu => by cases hu)).mono fun e' w' ⟨v', h1, h2, _, h3⟩ => ⟨v', h1, h2, h3⟩)
      (fun n c w => clone_var_nil n c w) (xs.map Var.pv) (by rw [List.length_map]; omega) (fun x hx => by obtain ⟨y, _, rfl⟩ := List.mem_map.1 hx; rfl)
    rw [List.length_map] at this
    exact this
  · cases h

/-- slices.Clone of strings. -/
theorem g_L_Clone (xs l : List Str) (h : L_Clone xs = some l) : Good env 40 [.pv (.slice (xs.map PV.str))] [] [.pv (.slice (l.map PV.str))] [] := by
  unfold L_Clone at h
  split at h
  rotate_left
  · cases h
  rename_i hx
  cases h
  refine Good.lib (ps := [.slice (xs.map PV.str)]) (rs := [.slice (xs.map PV.str)]) fun w Φ vs _ hΦ hl hr => ?_
  have own : ∀ (w' : World) (v : Value), w'.ownsRow w.heap.size 9 1 v xs.length (xs.map fun s => Value.string ⟨⟨s⟩⟩) → Below w.heap.size w w' → ∀ e, e = Ending.returned v →
      ∃ (us : List Value) (Φ' : Nat → Nat → Prop), e = .returned (retV us) ∧ us.length = [PV.slice (xs.map PV.str)].length ∧ Below w.heap.size w w' ∧ (∀ b k, Φ b k → Φ' b k) ∧ (∀ b k, Φ' b k → b < w.heap.size → Φ b k) ∧ (∀ b k, Φ' b k → b < w'.heap.size) ∧ ∀ (i : Nat) u r, us[i]? = some u → [PV.slice (xs.map PV.str)][i]? = some r → Rep Φ' w' u r := by
    intro w' v hown hb e he
    rcases hown.2 with ⟨hv, hn⟩ | ⟨b, cap, cur, hv, hlo, hbk, hnc, hcm, hcs, htake⟩
    · have : xs = [] := List.eq_nil_of_length_eq_zero hn
      subst this hv
      exact ⟨[.slice none 0 0], Φ, he, rfl, hb, fun _ _ h => h, fun _ _ h _ => h, fun b k h => Nat.lt_of_lt_of_le (hΦ b k h) hb.size, one_rep .sliceNil⟩
    · subst hv
      refine ⟨[.slice (some ⟨b, 0, none⟩) xs.length cap], fun c k => Φ c k ∨ (c = b ∧ k < xs.length), he, rfl, hb, fun _ _ h => .inl h, fun c k h hc => ?_, fun c k h => ?_, one_rep (strs_new xs hnc hcm fun k x hxk => ⟨.inr ⟨rfl, (List.getElem?_eq_some_iff.1 hxk).1⟩, ?_⟩)⟩
      · rcases h with h | ⟨h, _⟩
        · exact h
        · omega
      · rcases h with h | ⟨h, _⟩
        · exact Nat.lt_of_lt_of_le (hΦ c k h) hb.size
        · rw [h]
          exact (Array.getElem?_eq_some_iff.1 hbk).1
      · have := hown.cells (g := b) (by rfl) k (.string ⟨⟨x⟩⟩) (by rw [List.getElem?_map, hxk]; rfl)
        rw [Addr.add_lit, Nat.zero_add] at this
        exact this
  match vs, hl with
  | [a], _ =>
    rcases strs_cells (hr 0 a _ rfl rfl) with ⟨rfl, rfl⟩ | ⟨A, cap, rfl, rfl, _⟩ | ⟨bk, o, cap, rfl, hc, hm, hcell⟩
    · refine (Tryz.slices_Clone_string_nil 0 0 w).mono fun e w' ⟨he, hw⟩ => ?_
      subst hw
      exact below_id (us := [.slice none 0 0]) he rfl hΦ (one_rep .sliceNil)
    · refine (Tryz.slices_Clone_string_zero A cap w).mono fun e w' ⟨v, he, hown, _, hb⟩ => ?_
      exact own w' v hown hb e he
    · have hlen : (xs.map fun s => (⟨⟨s⟩⟩ : ByteArray)).length = xs.length := List.length_map _
      refine (Tryz.slices_Clone_string bk o xs.length cap (xs.map fun s => ⟨⟨s⟩⟩) w (by omega) (by omega) (fun j hj => ?_)).mono fun e w' ⟨v, he, hown, _, hb⟩ => ?_
      · rw [hlen] at hj
        rw [(hcell j xs[j] (List.getElem?_eq_getElem hj)).2]
        simp [List.getD_eq_getElem?_getD, hj]
      · rw [List.take_of_length_le (by omega), List.map_map] at hown
        exact own w' v hown hb e he

theorem rep_block {Φ : Nat → Nat → Prop} {w : World} {a : Addr} {n c : Nat} {x : PV} {xs : List PV} (h : Rep Φ w (.slice (some a) n c) (.slice (x :: xs))) (hx : 0 < x.cells.length) : ∃ k, Φ a.block k := by
  cases h with
  | slice b o len cap sz xs vs hl hn hm hsz h1 hcell hrep =>
    refine ⟨o + 0, (hcell 0 ?_).1⟩
    rw [flat_cons, List.length_append]
    omega

theorem g_L_InsertE (xs : List GEnv) (i : Int) (v r : List GEnv) (h : L_InsertE xs i v = some r) : Good env 35 [.vec 0 xs.length, .pv (.int .i64 i), .pv (.slice (v.map GEnv.pv))] [.row 34 3 (xs.map GEnv.pv) false] [.vec 0 r.length] [.row 34 3 (r.map GEnv.pv) false] := by
  unfold L_InsertE at h
  split at h
  · rename_i hx
    cases h
    obtain ⟨hi0, hi, hv, hx⟩ := hx
    match v, hv with
    | [g], _ =>
      have szs : ∀ (ys : List GEnv), ∀ z ∈ ys.map GEnv.pv, z.cells.length = 3 := fun ys z hz => by obtain ⟨y, _, rfl⟩ := List.mem_map.1 hz; rfl
      have hlen : (xs.take i.toNat ++ [g] ++ xs.drop i.toNat).length = xs.length + 1 := by simp only [List.length_append, List.length_take, List.length_drop, List.length_singleton]; omega
      have := Good.growRow (E := env) (f := 35) (e := 34) (sz := 3) (xs.map GEnv.pv) ((xs.take i.toNat ++ [g] ++ xs.drop i.toNat).map GEnv.pv) [.int .i64 i, .slice ([g].map GEnv.pv)] (by rw [List.length_map, List.length_map, hlen]; omega) (szs _) (fun w Φ v cells us hown hcr hΦ hno hl hr => by
        match us, hl with
        | [u0, u1], _ =>
          have h0 := rep_int (hr 0 u0 _ rfl rfl)
          subst h0
          have hrep := hr 1 u1 _ rfl rfl
          obtain ⟨news, ⟨hl3, h1, hx'⟩, hnr⟩ := src_of_rep (size := 3) hrep (szs _)
          rcases hx' with ⟨_, hz⟩ | ⟨a, c, rfl, hcells⟩
          · simp at hz
          · rw [List.length_map] at hown
            obtain ⟨q, hq⟩ := rep_block hrep (by show (0 : Nat) < 3; decide)
            have hone : ∀ u ∈ cells, u.oneCell' = true := by
              intro u hu
              obtain ⟨k, hk, hku⟩ := List.getElem_of_mem hu
              have hk2 : k < (flat (xs.map GEnv.pv)).length := by rw [← hcr.1]; exact hk
              have := hcr.2.2 k u _ (by rw [List.getElem?_eq_getElem hk, hku]) (List.getElem?_eq_getElem hk2)
              exact this.one (hcr.2.1 _ (List.getElem_mem hk2))
            have hrun := insert_any v xs.length i.toNat cells a c news w hown (by omega) hi (by simpa using hl3) hone h1 hcells (fun b hb e => (hno b hb).2 q (by rw [← e]; exact hq))
            rw [Int.toNat_of_nonneg hi0] at hrun
            refine hrun.mono fun e w' ⟨v', he, ho, hG⟩ => ⟨v', cells.take (i.toNat * 3) ++ news ++ cells.drop (i.toNat * 3), he, ?_, hG, ?_⟩
            · rw [List.length_map, hlen]
              exact ho
            · obtain ⟨f1, f2⟩ := flat_parts (xs := xs.map GEnv.pv) (szs xs) i.toNat
              rw [List.map_append, List.map_append, flat_append, flat_append, List.map_take, List.map_drop, f1, f2]
              exact cellsRel_append (cellsRel_append (cellsRel_part hcr _).1 hnr) (cellsRel_part hcr _).2)
      simp only [List.length_map] at this
      exact this
  · cases h

theorem g_L_DeleteV (xs : List Var) (i j : Int) (r x : List Var) (h : L_DeleteV xs i j = some (r, x)) : Good env 38 [.vec 0 xs.length, .pv (.int .i64 i), .pv (.int .i64 j)] [.row 37 3 (xs.map Var.pv) false] [.pv (.slice (r.map Var.pv))] [.row 37 3 (x.map Var.pv) true] := by
  unfold L_DeleteV at h
  split at h
  · rename_i hx
    cases h
    obtain ⟨hi, hil, hj, hx⟩ := hx
    have szs : ∀ (ys : List Var), ∀ z ∈ ys.map Var.pv, z.cells.length = 3 := fun ys z hz => by obtain ⟨y, _, rfl⟩ := List.mem_map.1 hz; rfl
    have hel : (xs.eraseIdx i.toNat).length = xs.length - 1 := List.length_eraseIdx_of_lt hil
    have := Good.cutRow (E := env) (f := 38) (e := 37) (sz := 3) (m := xs.length - 1) (xs.map Var.pv) ((xs.eraseIdx i.toNat ++ [(⟨0, [], []⟩ : Var)]).map Var.pv) [.int .i64 i, .int .i64 j] (by simp [hel]; omega) (by simp) (szs _) (fun w Φ v cells us hown hcr hΦ hno hl hr => by
      match us, hl with
      | [u0, u1], _ =>
        have h0 := rep_int (hr 0 u0 _ rfl rfl)
        have h1 := rep_int (hr 1 u1 _ rfl rfl)
        subst h0 h1
        rw [List.length_map] at hown
        have hcl := hown.1
        obtain ⟨b, cap, rfl, hnc, hcm⟩ : ∃ b cap, v = .slice (some ⟨b, 0, none⟩) xs.length cap ∧ xs.length ≤ cap ∧ cap ≤ 9223372036854775807 := by
          rcases hown.2 with ⟨_, hz⟩ | ⟨b, cap, cur, hv, _, _, hnc, hcm, _⟩
          · omega
          · exact ⟨b, cap, hv, hnc, by unfold maxLen at hcm; omega⟩
        have hone : ∀ u ∈ cells, u.oneCell' = true := by
          intro u hu
          obtain ⟨k, hk, hku⟩ := List.getElem_of_mem hu
          have hk2 : k < (flat (xs.map Var.pv)).length := by rw [← hcr.1]; exact hk
          have := hcr.2.2 k u _ (by rw [List.getElem?_eq_getElem hk, hku]) (List.getElem?_eq_getElem hk2)
          exact this.one (hcr.2.1 _ (List.getElem_mem hk2))
        have hrun := delete_run b cap xs.length i.toNat j.toNat cells w hcl (owns_plain hown rfl) hone hnc hcm (by omega) hil
        rw [Int.toNat_of_nonneg hi, Int.toNat_of_nonneg (by omega)] at hrun
        refine hrun.mono fun e w' ⟨he, q, hw⟩ => ?_
        subst hw
        have hd : (cells.drop (j.toNat * 3)).length = (xs.length - j.toNat) * 3 := by rw [List.length_drop, hcl]; omega
        have o1 := owns_setCells (w := Sort.ahead w q) (k := i.toNat * 3) (vs := cells.drop (j.toNat * 3)) (b := b) (show (Sort.ahead w q).ownsRow 0 37 3 _ xs.length cells from hown) rfl (by rw [hd, hcl]; omega)
        have p1 : (putVs cells (i.toNat * 3) (cells.drop (j.toNat * 3))).length = xs.length * 3 := by rw [putVs_length (by rw [hd, hcl]; omega), hcl]
        have o2 := owns_setCells (k := (xs.length - 1) * 3) (vs := [.int .i64 0, .string ⟨#[]⟩, .slice none 0 0]) (b := b) o1 rfl (by rw [p1]; simp; omega)
        obtain ⟨a1, a2, a3, a4, a5⟩ := setCells_same b (cells.drop (j.toNat * 3)) (i.toNat * 3) (Sort.ahead w q)
        obtain ⟨b1, b2, b3, b4, b5⟩ := setCells_same b [.int .i64 0, .string ⟨#[]⟩, .slice none 0 0] ((xs.length - 1) * 3) ((Sort.ahead w q).setCells b (i.toNat * 3) (cells.drop (j.toNat * 3)))
        have ecells : putVs (putVs cells (i.toNat * 3) (cells.drop (j.toNat * 3))) ((xs.length - 1) * 3) [.int .i64 0, .string ⟨#[]⟩, .slice none 0 0] = cells.take (i.toNat * 3) ++ cells.drop (j.toNat * 3) ++ [.int .i64 0, .string ⟨#[]⟩, .slice none 0 0] := by
          have ht : (cells.take (i.toNat * 3)).length = i.toNat * 3 := by rw [List.length_take, hcl]; omega
          unfold putVs
          rw [List.take_append_of_le_length (by rw [List.length_append, ht, hd]; omega), List.take_of_length_le (by rw [List.length_append, ht, hd]; omega), List.drop_of_length_le (l := cells.take (i.toNat * 3) ++ cells.drop (j.toNat * 3) ++ _) (by simp only [List.length_append, ht, hd, List.length_drop, hcl, List.length_cons, List.length_nil]; omega), List.append_nil]
        rw [ecells] at o2
        refine ⟨⟨b, 0, none⟩, cap, cells.take (i.toNat * 3) ++ cells.drop (j.toNat * 3) ++ [.int .i64 0, .string ⟨#[]⟩, .slice none 0 0], by rw [List.length_map], he, ?_, b1.trans a1, b2.trans a2, b3.trans a3, b4.trans a4, fun c hc => ?_, ?_⟩
        · rw [List.length_map, List.length_append, hel, show xs.length - 1 + [(⟨0, [], []⟩ : Var)].length = xs.length by simp; omega]
          exact o2
        · have hcb : c ≠ b := fun e => hc (by rw [e]; rfl)
          rw [b5 c hcb, a5 c hcb]
          rfl
        · rw [List.map_append, flat_append, List.eraseIdx_eq_take_drop_succ, List.map_append, flat_append, List.map_take, List.map_drop]
          obtain ⟨f1, _⟩ := flat_parts (xs := xs.map Var.pv) (szs xs) i.toNat
          obtain ⟨_, f2⟩ := flat_parts (xs := xs.map Var.pv) (szs xs) (i.toNat + 1)
          rw [f1, f2, show j.toNat = i.toNat + 1 by omega]
          refine cellsRel_append (cellsRel_append (cellsRel_part hcr _).1 (cellsRel_part hcr _).2) ⟨rfl, ?_, ?_⟩
          · intro c hc
            simp [flat, Var.pv, PV.cells] at hc
            rcases hc with rfl | rfl | rfl <;> rfl
          · intro k u c hu hc
            match k, hu, hc with
            | 0, hu, hc => cases hu; cases hc; exact .int _ _
            | 1, hu, hc => cases hu; cases hc; exact .str _
            | 2, hu, hc => cases hu; cases hc; exact .sliceNil)
    simp only [List.length_map] at this
    rw [← List.map_take, List.take_append_of_le_length (by omega), List.take_of_length_le (by omega)] at this
    exact this
  · cases h

theorem g_L_SContains (s p : Str) (ok : Bool) (h : L_SContains s p = some ok) : Good env 69 [.pv (.str s), .pv (.str p)] [] [.pv (.bool ok)] [] := by
  unfold L_SContains at h
  split at h
  · rename_i hs
    cases h
    refine Good.lib (ps := [.str s, .str p]) (rs := [.bool (Lib.contains s p)]) fun w Φ vs hG hΦ hl hr => ?_
    obtain ⟨m, hm⟩ := gi_max hG
    match vs, hl with
    | [a, b], _ =>
      have ha := rep_str (hr 0 a _ rfl rfl)
      have hb := rep_str (hr 1 b _ rfl rfl)
      subst ha hb
      refine (Tryz.strings_Contains ⟨⟨s⟩⟩ ⟨⟨p⟩⟩ m w hs hm).mono fun e w' ⟨he, hw⟩ => ?_
      subst hw
      exact below_id (us := [.bool (Lib.contains s p)]) he rfl hΦ (one_rep (.bool _))
  · cases h

theorem g_L_Join (xs : List Str) (sep s : Str) (h : L_Join xs sep = some s) : Good env 70 [.pv (.slice (xs.map PV.str)), .pv (.str sep)] [] [.pv (.str s)] [] := by
  unfold L_Join at h
  split at h
  · rename_i hj
    cases h
    obtain ⟨hj, hx⟩ := hj
    refine Good.lib (ps := [.slice (xs.map PV.str), .str sep]) (rs := [.str (Lib.join xs sep)]) fun w Φ vs _ hΦ hl hr => ?_
    match vs, hl with
    | [a, b], _ =>
      have hb := rep_str (hr 1 b _ rfl rfl)
      subst hb
      rcases strs_cells (hr 0 a _ rfl rfl) with ⟨rfl, rfl⟩ | ⟨A, cap, rfl, rfl, _⟩ | ⟨bk, o, cap, rfl, hc, _, hcell⟩
      · refine (Tryz.strings_Join_none none 0 ⟨⟨sep⟩⟩ w).mono fun e w' ⟨he, hw⟩ => ?_
        subst hw
        exact ⟨[.string ⟨⟨[]⟩⟩], Φ, he, rfl, Below.refl _ _, fun _ _ h => h, fun _ _ h _ => h, hΦ, fun i u r hu hr => by
          match i, hu, hr with
          | 0, hu, hr => cases hu; cases hr; exact .str _⟩
      · refine (Tryz.strings_Join_none (some A) cap ⟨⟨sep⟩⟩ w).mono fun e w' ⟨he, hw⟩ => ?_
        subst hw
        exact ⟨[.string ⟨⟨[]⟩⟩], Φ, he, rfl, Below.refl _ _, fun _ _ h => h, fun _ _ h _ => h, hΦ, fun i u r hu hr => by
          match i, hu, hr with
          | 0, hu, hr => cases hu; cases hr; exact .str _⟩
      · cases xs with
        | nil =>
          refine (Tryz.strings_Join_none (some ⟨bk, o, none⟩) cap ⟨⟨sep⟩⟩ w).mono fun e w' ⟨he, hw⟩ => ?_
          subst hw
          exact ⟨[.string ⟨⟨[]⟩⟩], Φ, he, rfl, Below.refl _ _, fun _ _ h => h, fun _ _ h _ => h, hΦ, fun i u r hu hr => by
            match i, hu, hr with
            | 0, hu, hr => cases hu; cases hr; exact .str _⟩
        | cons x xs =>
          have hmap : ((x :: xs).map fun s => (⟨⟨s⟩⟩ : ByteArray)).map (·.data.toList) = x :: xs := by
            rw [List.map_map]
            exact List.map_id _
          have hlen : ((x :: xs).map fun s => (⟨⟨s⟩⟩ : ByteArray)).length = (x :: xs).length := List.length_map _
          have h0 := Tryz.strings_Join bk o cap ((x :: xs).map fun s => ⟨⟨s⟩⟩) ⟨⟨sep⟩⟩ w (fun j y hy => by
            rw [List.getElem?_map] at hy
            obtain ⟨s, hs, rfl⟩ := Option.map_eq_some_iff.1 hy
            exact (hcell j s hs).2) (hΦ _ _ (hcell 0 x rfl).1) (by rw [hlen]; exact hx) (by rw [hlen]; exact hc) (by rw [hmap]; exact hj)
          rw [hmap, hlen] at h0
          refine h0.mono fun e w' ⟨he, hb⟩ => ?_
          exact ⟨[.string ⟨⟨Lib.join (x :: xs) sep⟩⟩], Φ, he, rfl, hb, fun _ _ h => h, fun _ _ h _ => h, fun b k h => Nat.lt_of_lt_of_le (hΦ b k h) hb.size, fun i u r hu hr => by
            match i, hu, hr with
            | 0, hu, hr => cases hu; cases hr; exact .str _⟩
  · cases h

theorem g_L_Repeat (s : Str) (n : Int) (t : Str) (h : L_Repeat s n = some t) : Good env 44 [.pv (.str s), .pv (.int .i64 n)] [] [.pv (.str t)] [] := by
  unfold L_Repeat at h
  split at h
  · rename_i hc
    cases h
    obtain ⟨h1, h2, h3⟩ := hc
    refine Good.lib (ps := [.str s, .int .i64 n]) (rs := [.str (Lib.repeatL s n.toNat)]) fun w Φ vs _ hΦ hl hr => ?_
    match vs, hl with
    | [x, y], _ =>
      have ha := rep_str (hr 0 x _ rfl rfl)
      have hb := rep_int (hr 1 y _ rfl rfl)
      subst ha hb
      have h0 := Tryz.strings_Repeat ⟨⟨s⟩⟩ n.toNat w (by omega) h3
      rw [Int.toNat_of_nonneg h1] at h0
      refine h0.mono fun e w' ⟨he, hb⟩ => ?_
      exact ⟨[.string ⟨⟨Lib.repeatL s n.toNat⟩⟩], Φ, he, rfl, hb, fun _ _ h => h, fun _ _ h _ => h, fun b k h => Nat.lt_of_lt_of_le (hΦ b k h) hb.size, one_rep (.str _)⟩
  · cases h

theorem g_L_Count (s p : Str) (n : Int) (h : L_Count s p = some n) : Good env 46 [.pv (.str s), .pv (.str p)] [] [.pv (.int .i64 n)] [] := by
  unfold L_Count at h
  split at h
  · rename_i hs
    cases h
    refine Good.lib (ps := [.str s, .str p]) (rs := [.int .i64 ((Lib.countB ⟨⟨s⟩⟩ ⟨⟨p⟩⟩ : Nat) : Int)]) fun w Φ vs hG hΦ hl hr => ?_
    obtain ⟨m, hm⟩ := gi_max hG
    match vs, hl with
    | [a, b], _ =>
      have ha := rep_str (hr 0 a _ rfl rfl)
      have hb := rep_str (hr 1 b _ rfl rfl)
      subst ha hb
      refine (Tryz.strings_Count_any ⟨⟨s⟩⟩ ⟨⟨p⟩⟩ m w hs.1 hm hs.2).mono fun e w' ⟨he, hw⟩ => ?_
      subst hw
      exact below_id (us := [.int .i64 ((Lib.countB ⟨⟨s⟩⟩ ⟨⟨p⟩⟩ : Nat) : Int)]) he rfl hΦ (one_rep (.int _ _))
  · cases h

theorem g_L_Split (s sep : Str) (l : List Str) (h : L_Split s sep = some l) : Good env 47 [.pv (.str s), .pv (.str sep)] [] [.pv (.slice (l.map PV.str))] [] := by
  unfold L_Split at h
  split at h
  · rename_i hh
    cases h
    obtain ⟨hs, h1⟩ := hh
    refine Good.lib (ps := [.str s, .str sep]) (rs := [.slice ((splitS s sep).map PV.str)]) fun w Φ vs hG hΦ hl hr => ?_
    obtain ⟨m, hm⟩ := gi_max hG
    match vs, hl with
    | [a, b], _ =>
      have ha := rep_str (hr 0 a _ rfl rfl)
      have hb := rep_str (hr 1 b _ rfl rfl)
      subst ha hb
      refine (Tryz.strings_Split ⟨⟨s⟩⟩ ⟨⟨sep⟩⟩ m w hs hm h1).mono fun e w' ⟨he, hw⟩ => ?_
      subst hw
      have hlen : (splitS s sep).length = Lib.countB ⟨⟨s⟩⟩ ⟨⟨sep⟩⟩ + 1 := by
        unfold splitS
        rw [List.length_map]
        exact Lib.splitB_all ⟨⟨sep⟩⟩ h1 0 _ ⟨⟨s⟩⟩ rfl
      have hle : Lib.countB ⟨⟨s⟩⟩ ⟨⟨sep⟩⟩ ≤ s.length := Lib.countB_le ⟨⟨sep⟩⟩ h1 s.length ⟨⟨s⟩⟩ (Nat.le_refl _)
      rw [← hlen] at he
      refine ⟨[.slice (some ⟨w.heap.size, 0, none⟩) (splitS s sep).length (splitS s sep).length], fun b k => Φ b k ∨ (b = w.heap.size ∧ k < (splitS s sep).length), he, rfl, ⟨rfl, rfl, rfl, ?_, fun k hk => Below.heap_alloc w _ k hk⟩, fun _ _ h => .inl h, fun b k h hb => ?_, fun b k h => ?_, one_rep ?_⟩
      · show w.heap.size ≤ (w.heap.push _).size
        simp
      · rcases h with h | ⟨h, _⟩
        · exact h
        · omega
      · show b < (w.heap.push _).size
        rw [Array.size_push]
        rcases h with h | ⟨h, _⟩
        · have := hΦ b k h
          omega
        · omega
      · refine strs_new _ (Nat.le_refl _) (by rw [hlen]; unfold maxLen; omega) (fun k x hx => ⟨.inr ⟨rfl, (List.getElem?_eq_some_iff.1 hx).1⟩, ?_⟩)
        unfold splitS at hx
        rw [List.getElem?_map] at hx
        obtain ⟨y, hy, rfl⟩ := Option.map_eq_some_iff.1 hx
        have hn := heap_alloc_new w (.cells ((Lib.splitB ⟨⟨sep⟩⟩ 0 (Lib.countB ⟨⟨s⟩⟩ ⟨⟨sep⟩⟩) ⟨⟨s⟩⟩).map Value.string).toArray 9)
        unfold World.cell?
        simp only [hn]
        simp [hy]
  · cases h

end Go.Abs.U2Z
