/- The library: its functions, by the shelf's contracts. -/
import Derived.Test.YthoacjgjmlgaoaaGreatDoorA33
import Derived.Test.YthoacjgjmlgaoaaGreatDoorA41
import Derived.Test.YthoacjgjmlgaoaaGreatDoorLB
import Derived.Test.YthoacjgjmlgaoaaGreatDoorL1
import Derived.Test.YthoacjgjmlgaoaaGreatDoorL2
set_option linter.unusedSimpArgs false
set_option linter.unusedVariables false
namespace Go.Abs.U5Z
open Go.RowKit Go.Proofs

theorem gi_max {w : World} (h : env.GI w) : ∃ m, w.cell? ⟨0, 0, none⟩ = some (.int .i64 m) := h.1
theorem gi_syn {w : World} (h : env.GI w) : ∃ ev, w.cell? ⟨1, 0, none⟩ = some ev ∧ (ev = .nilIface ∨ ∃ te pe, ev = .iface te pe) := h.2.1
theorem gi_rng {w : World} (h : env.GI w) : ∃ ev, w.cell? ⟨2, 0, none⟩ = some ev ∧ (ev = .nilIface ∨ ∃ te pe, ev = .iface te pe) := h.2.2.1
theorem gi_tab {w : World} (h : env.GI w) : Lib.TabIs Tryz.prog w "internal/strconv.uint64pow10" .u64 Lib.pow10Tab := h.2.2.2

theorem below_id {Φ : Nat → Nat → Prop} {w : World} {rs : List PV} {us : List Value} {e : Ending} (he : e = .returned (retV us)) (hl : us.length = rs.length) (hΦ : ∀ b k, Φ b k → b < w.heap.size) (h : ∀ (i : Nat) u r, us[i]? = some u → rs[i]? = some r → Rep Φ w u r) :
    ∃ (us : List Value) (Φ' : Nat → Nat → Prop), e = .returned (retV us) ∧ us.length = rs.length ∧ Below w.heap.size w w ∧ (∀ b k, Φ b k → Φ' b k) ∧ (∀ b k, Φ' b k → b < w.heap.size → Φ b k) ∧ (∀ b k, Φ' b k → b < w.heap.size) ∧ ∀ (i : Nat) u r, us[i]? = some u → rs[i]? = some r → Rep Φ' w u r :=
  ⟨us, Φ, he, hl, Below.refl _ _, fun _ _ h => h, fun _ _ h _ => h, hΦ, h⟩

theorem one_rep {Φ : Nat → Nat → Prop} {w : World} {v : Value} {p : PV} (h : Rep Φ w v p) : ∀ (i : Nat) u r, [v][i]? = some u → [p][i]? = some r → Rep Φ w u r := by
  intro i u r hu hr
  match i, hu, hr with
  | 0, hu, hr => cases hu; cases hr; exact h

theorem flat_strs (xs : List Str) : flat (xs.map PV.str) = xs.map PV.str := by
  induction xs with
  | nil => rfl
  | cons x xs ih => rw [List.map_cons, flat_cons, ih]; rfl

/-- A row of strings in a new block. -/
theorem strs_new {Φ : Nat → Nat → Prop} {w : World} {b cap : Nat} (xs : List Str) (hc : xs.length ≤ cap) (hm : cap ≤ maxLen) (hcell : ∀ (k : Nat) x, xs[k]? = some x → Φ b k ∧ w.cell? ⟨b, k, none⟩ = some (.string ⟨⟨x⟩⟩)) : Rep Φ w (.slice (some ⟨b, 0, none⟩) xs.length cap) (.slice (xs.map PV.str)) := by
  refine .slice b 0 xs.length cap 1 (xs.map PV.str) (fun k => .string ⟨⟨xs.getD k []⟩⟩) (List.length_map _) hc hm (fun x hx => ?_) (fun c hc => ?_) (fun k hk => ?_) (fun k c hcc => ?_)
  · obtain ⟨y, _, rfl⟩ := List.mem_map.1 hx
    rfl
  · rw [flat_strs] at hc
    obtain ⟨y, _, rfl⟩ := List.mem_map.1 hc
    rfl
  · rw [flat_strs, List.length_map] at hk
    have := hcell k xs[k] (List.getElem?_eq_getElem hk)
    rw [Nat.zero_add, List.getD_eq_getElem?_getD, List.getElem?_eq_getElem hk]
    exact this
  · rw [flat_strs, List.getElem?_map] at hcc
    obtain ⟨y, hy, rfl⟩ := Option.map_eq_some_iff.1 hcc
    have : xs.getD k [] = y := by rw [List.getD_eq_getElem?_getD, hy]; rfl
    rw [this]
    exact .str y

theorem two_rep {Φ : Nat → Nat → Prop} {w : World} {v u : Value} {p q : PV} (h : Rep Φ w v p) (k : Rep Φ w u q) : ∀ (i : Nat) x r, [v, u][i]? = some x → [p, q][i]? = some r → Rep Φ w x r := by
  intro i x r hu hr
  match i, hu, hr with
  | 0, hu, hr => cases hu; cases hr; exact h
  | 1, hu, hr => cases hu; cases hr; exact k

theorem g_L_Atoi (s : Str) (n : Int) (bad : Bool) (h : L_Atoi s = some (n, bad)) : Good env 52 [.pv (.str s)] [] [.pv (.int .i64 n), .pv ((bif bad then PV.ifc else PV.nil))] [] := by
  unfold L_Atoi at h
  split at h
  · rename_i hs
    refine Good.lib (ps := [.str s]) (rs := [.int .i64 n, bif bad then PV.ifc else PV.nil]) fun w Φ vs hG hΦ hl hr => ?_
    match vs, hl with
    | [x], _ =>
      have ha := rep_str (hr 0 x _ rfl rfl)
      subst ha
      have hsz : (⟨⟨s⟩⟩ : ByteArray).size = s.length := rfl
      have hd : (⟨⟨s⟩⟩ : ByteArray).data.toList = s := rfl
      obtain ⟨e3, c3, k3⟩ := gi_syn hG
      obtain ⟨e4, c4, k4⟩ := gi_rng hG
      split at h
      · rename_i v hv
        cases h
        refine (Tryz.strconv_Atoi_ok ⟨⟨s⟩⟩ (by rw [hsz]; omega) n (by rw [hd]; exact hv) w).mono fun e w' ⟨he, hw⟩ => ?_
        have hb : Below w.heap.size w w' := by
          rcases hw with rfl | ⟨t, rfl⟩
          · exact Below.refl _ _
          · exact Lib.bytesWorld_below _ _ _
        exact ⟨[.int .i64 n, .nilIface], Φ, he, rfl, hb, fun _ _ h => h, fun _ _ h _ => h, fun b k h => Nat.lt_of_lt_of_le (hΦ b k h) hb.size, two_rep (.int _ _) .nil⟩
      · rename_i hv
        cases h
        refine (Tryz.strconv_Atoi_syntax ⟨⟨s⟩⟩ (by rw [hsz]; omega) (by rw [hd]; exact hv) e3 w c3 k3).mono fun e w' ⟨N, he, _, _, hb⟩ => ?_
        exact ⟨[.int .i64 0, _], Φ, he, rfl, hb, fun _ _ h => h, fun _ _ h _ => h, fun b k h => Nat.lt_of_lt_of_le (hΦ b k h) hb.size, two_rep (.int _ _) (.ifc _ _)⟩
      · rename_i hv
        cases h
        refine (Tryz.strconv_Atoi_range ⟨⟨s⟩⟩ (by rw [hsz]; omega) (by rw [hd]; exact hv) e4 w c4 k4).mono fun e w' ⟨N, he, _, _, hb⟩ => ?_
        exact ⟨[.int .i64 (Lib.atoiSat s), _], Φ, he, rfl, hb, fun _ _ h => h, fun _ _ h _ => h, fun b k h => Nat.lt_of_lt_of_le (hΦ b k h) hb.size, two_rep (.int _ _) (.ifc _ _)⟩
  · cases h

theorem g_L_Itoa (n : Int) (s : Str) (h : L_Itoa n = some s) : Good env 49 [.pv (.int .i64 n)] [] [.pv (.str s)] [] := by
  unfold L_Itoa at h
  split at h
  · rename_i hc
    cases h
    obtain ⟨h1, h2⟩ := hc
    refine Good.lib (ps := [.int .i64 n]) (rs := [.str (Lib.itoa n)]) fun w Φ vs hg hΦ hl hr => ?_
    match vs, hl with
    | [x], _ =>
      have ha := rep_int (hr 0 x _ rfl rfl)
      subst ha
      refine (Tryz.strconv_Itoa n h1 h2 w (gi_tab hg)).mono fun e w' ⟨he, k, os, hw⟩ => ?_
      have hb : Below w.heap.size w w' := by
        subst hw
        refine ⟨rfl, rfl, rfl, ?_, fun b hb => ?_⟩
        · show w.heap.size ≤ (w.heap ++ os).size
          rw [Array.size_append]
          omega
        · show (w.heap ++ os)[b]? = w.heap[b]?
          exact Array.getElem?_append_left hb
      exact ⟨[.string ⟨⟨Lib.itoa n⟩⟩], Φ, he, rfl, hb, fun _ _ h => h, fun _ _ h _ => h, fun b k h => Nat.lt_of_lt_of_le (hΦ b k h) hb.size, one_rep (.str _)⟩
  · cases h

/-- slices.Clone of strings. -/
theorem g_L_Clone (xs l : List Str) (h : L_Clone xs = some l) : Good env 58 [.pv (.slice (xs.map PV.str))] [] [.pv (.slice (l.map PV.str))] [] := by
  unfold L_Clone at h
  split at h
  rotate_left
  · cases h
  rename_i hx
  cases h
  refine Good.lib (ps := [.slice (xs.map PV.str)]) (rs := [.slice (xs.map PV.str)]) fun w Φ vs _ hΦ hl hr => ?_
  have own : ∀ (w' : World) (v : Value), w'.ownsRow w.heap.size 9 1 v xs.length (xs.map fun s => Value.string ⟨⟨s⟩⟩) → Below w.heap.size w w' → ∀ e, e = Ending.returned v →
      ∃ (us : List Value) (Φ' : Nat → Nat → Prop), e = .returned (retV us) ∧ us.length = [PV.slice (xs.map PV.str)].length ∧ Below w.heap.size w w' ∧ (∀ b k, Φ b k → Φ' b k) ∧ (∀ b k, Φ' b k → b < w.heap.size → Φ b k) ∧ (∀ b k, Φ' b k → b < w'.heap.size) ∧ ∀ (i : Nat) u r, us[i]? = some u → [PV.slice (xs.map PV.str)][i]? = some r → Rep Φ' w' u r := by
    intro w' v hown hb e he
    rcases hown.2 with ⟨hv, hn⟩ | ⟨b, cap, cur, hv, hlo, hbk, hnc, hcm, hcs, htake⟩
    · have : xs = [] := List.eq_nil_of_length_eq_zero hn
      subst this hv
      exact ⟨[.slice none 0 0], Φ, he, rfl, hb, fun _ _ h => h, fun _ _ h _ => h, fun b k h => Nat.lt_of_lt_of_le (hΦ b k h) hb.size, one_rep .sliceNil⟩
    · subst hv
      refine ⟨[.slice (some ⟨b, 0, none⟩) xs.length cap], fun c k => Φ c k ∨ (c = b ∧ k < xs.length), he, rfl, hb, fun _ _ h => .inl h, fun c k h hc => ?_, fun c k h => ?_, one_rep (strs_new xs hnc hcm fun k x hxk => ⟨.inr ⟨rfl, (List.getElem?_eq_some_iff.1 hxk).1⟩, ?_⟩)⟩
      · rcases h with h | ⟨h, _⟩
        · exact h
        · omega
      · rcases h with h | ⟨h, _⟩
        · exact Nat.lt_of_lt_of_le (hΦ c k h) hb.size
        · rw [h]
          exact (Array.getElem?_eq_some_iff.1 hbk).1
      · have := hown.cells (g := b) (by rfl) k (.string ⟨⟨x⟩⟩) (by rw [List.getElem?_map, hxk]; rfl)
        rw [Addr.add_lit, Nat.zero_add] at this
        exact this
  match vs, hl with
  | [a], _ =>
    rcases strs_cells (hr 0 a _ rfl rfl) with ⟨rfl, rfl⟩ | ⟨A, cap, rfl, rfl, _⟩ | ⟨bk, o, cap, rfl, hc, hm, hcell⟩
    · refine (Tryz.slices_Clone_string_nil 0 0 w).mono fun e w' ⟨he, hw⟩ => ?_
      subst hw
      exact below_id (us := [.slice none 0 0]) he rfl hΦ (one_rep .sliceNil)
    · refine (Tryz.slices_Clone_string_zero A cap w).mono fun e w' ⟨v, he, hown, _, hb⟩ => ?_
      exact own w' v hown hb e he
    · have hlen : (xs.map fun s => (⟨⟨s⟩⟩ : ByteArray)).length = xs.length := List.length_map _
      refine (Tryz.slices_Clone_string bk o xs.length cap (xs.map fun s => ⟨⟨s⟩⟩) w (by omega) (by omega) (fun j hj => ?_)).mono fun e w' ⟨v, he, hown, _, hb⟩ => ?_
      · rw [hlen] at hj
        rw [(hcell j xs[j] (List.getElem?_eq_getElem hj)).2]
        simp [List.getD_eq_getElem?_getD, hj]
      · rw [List.take_of_length_le (by omega), List.map_map] at hown
        exact own w' v hown hb e he

theorem g_L_Repeat (s : Str) (n : Int) (t : Str) (h : L_Repeat s n = some t) : Good env 62 [.pv (.str s), .pv (.int .i64 n)] [] [.pv (.str t)] [] := by
  unfold L_Repeat at h
  split at h
  · rename_i hc
    cases h
    obtain ⟨h1, h2, h3⟩ := hc
    refine Good.lib (ps := [.str s, .int .i64 n]) (rs := [.str (Lib.repeatL s n.toNat)]) fun w Φ vs _ hΦ hl hr => ?_
    match vs, hl with
    | [x, y], _ =>
      have ha := rep_str (hr 0 x _ rfl rfl)
      have hb := rep_int (hr 1 y _ rfl rfl)
      subst ha hb
      have h0 := Tryz.strings_Repeat ⟨⟨s⟩⟩ n.toNat w (by omega) h3
      rw [Int.toNat_of_nonneg h1] at h0
      refine h0.mono fun e w' ⟨he, hb⟩ => ?_
      exact ⟨[.string ⟨⟨Lib.repeatL s n.toNat⟩⟩], Φ, he, rfl, hb, fun _ _ h => h, fun _ _ h _ => h, fun b k h => Nat.lt_of_lt_of_le (hΦ b k h) hb.size, one_rep (.str _)⟩
  · cases h

theorem g_L_Len (b : Str) (n : Int) (h : L_Len b = some n) : Good env 20 [.ref 0 0] [.bld b] [.pv (.int .i64 n)] [.bld b] := by
  unfold L_Len at h
  cases h
  exact Good.len (E := env) (f := 20) (fun B blk l w hB => Tryz.Builder_Len B blk _ w hB) b

theorem g_L_Cut (s sep a b : Str) (ok : Bool) (h : L_Cut s sep = some (a, b, ok)) : Good env 21 [.pv (.str s), .pv (.str sep)] [] [.pv (.str a), .pv (.str b), .pv (.bool ok)] [] := by
  unfold L_Cut at h
  split at h
  · rename_i hs
    have e : Lib.cut s sep = (a, b, ok) := Option.some.inj h
    refine Good.lib (ps := [.str s, .str sep]) (rs := [.str a, .str b, .bool ok]) fun w Φ vs hG hΦ hl hr => ?_
    obtain ⟨m, hm⟩ := gi_max hG
    match vs, hl with
    | [x, y], _ =>
      have ha := rep_str (hr 0 x _ rfl rfl)
      have hb := rep_str (hr 1 y _ rfl rfl)
      subst ha hb
      refine (Tryz.strings_Cut ⟨⟨s⟩⟩ ⟨⟨sep⟩⟩ m w hs hm).mono fun e' w' ⟨he, n, hw⟩ => ?_
      subst hw
      have he2 : e' = .returned (.tuple #[.string ⟨⟨(Lib.cut s sep).1⟩⟩, .string ⟨⟨(Lib.cut s sep).2.1⟩⟩, .bool (Lib.cut s sep).2.2]) := he
      rw [e] at he2
      refine ⟨[.string ⟨⟨a⟩⟩, .string ⟨⟨b⟩⟩, .bool ok], Φ, he2, rfl, ⟨rfl, rfl, rfl, Nat.le_refl _, fun _ _ => rfl⟩, fun _ _ h => h, fun _ _ h _ => h, hΦ, fun i u r hu hr => ?_⟩
      match i, hu, hr with
      | 0, hu, hr => cases hu; cases hr; exact .str _
      | 1, hu, hr => cases hu; cases hr; exact .str _
      | 2, hu, hr => cases hu; cases hr; exact .bool _
  · cases h

theorem g_L_WriteString (b s : Str) (n : Int) (c : Str) (h : L_WriteString b s = some (n, c)) : Good env 22 [.ref 0 0, .pv (.str s)] [.bld b] [.pv (.int .i64 n), .pv (.nil)] [.bld c] := by
  unfold L_WriteString at h
  split at h
  · rename_i hl
    cases h
    exact Good.writeString (E := env) (f := 22) (fun b p v bs w s hB hl => writeString_x Tryz.lays166 Tryz.Builder_Extra_166 s hB hl) b s hl
  · cases h

theorem g_L_Join (xs : List Str) (sep s : Str) (h : L_Join xs sep = some s) : Good env 25 [.pv (.slice (xs.map PV.str)), .pv (.str sep)] [] [.pv (.str s)] [] := by
  unfold L_Join at h
  split at h
  · rename_i hj
    cases h
    obtain ⟨hj, hx⟩ := hj
    refine Good.lib (ps := [.slice (xs.map PV.str), .str sep]) (rs := [.str (Lib.join xs sep)]) fun w Φ vs _ hΦ hl hr => ?_
    match vs, hl with
    | [a, b], _ =>
      have hb := rep_str (hr 1 b _ rfl rfl)
      subst hb
      rcases strs_cells (hr 0 a _ rfl rfl) with ⟨rfl, rfl⟩ | ⟨A, cap, rfl, rfl, _⟩ | ⟨bk, o, cap, rfl, hc, _, hcell⟩
      · refine (Tryz.strings_Join_none none 0 ⟨⟨sep⟩⟩ w).mono fun e w' ⟨he, hw⟩ => ?_
        subst hw
        exact ⟨[.string ⟨⟨[]⟩⟩], Φ, he, rfl, Below.refl _ _, fun _ _ h => h, fun _ _ h _ => h, hΦ, fun i u r hu hr => by
          match i, hu, hr with
          | 0, hu, hr => cases hu; cases hr; exact .str _⟩
      · refine (Tryz.strings_Join_none (some A) cap ⟨⟨sep⟩⟩ w).mono fun e w' ⟨he, hw⟩ => ?_
        subst hw
        exact ⟨[.string ⟨⟨[]⟩⟩], Φ, he, rfl, Below.refl _ _, fun _ _ h => h, fun _ _ h _ => h, hΦ, fun i u r hu hr => by
          match i, hu, hr with
          | 0, hu, hr => cases hu; cases hr; exact .str _⟩
      · cases xs with
        | nil =>
          refine (Tryz.strings_Join_none (some ⟨bk, o, none⟩) cap ⟨⟨sep⟩⟩ w).mono fun e w' ⟨he, hw⟩ => ?_
          subst hw
          exact ⟨[.string ⟨⟨[]⟩⟩], Φ, he, rfl, Below.refl _ _, fun _ _ h => h, fun _ _ h _ => h, hΦ, fun i u r hu hr => by
            match i, hu, hr with
            | 0, hu, hr => cases hu; cases hr; exact .str _⟩
        | cons x xs =>
          have hmap : ((x :: xs).map fun s => (⟨⟨s⟩⟩ : ByteArray)).map (·.data.toList) = x :: xs := by
            rw [List.map_map]
            exact List.map_id _
          have hlen : ((x :: xs).map fun s => (⟨⟨s⟩⟩ : ByteArray)).length = (x :: xs).length := List.length_map _
          have h0 := Tryz.strings_Join bk o cap ((x :: xs).map fun s => ⟨⟨s⟩⟩) ⟨⟨sep⟩⟩ w (fun j y hy => by
            rw [List.getElem?_map] at hy
            obtain ⟨s, hs, rfl⟩ := Option.map_eq_some_iff.1 hy
            exact (hcell j s hs).2) (hΦ _ _ (hcell 0 x rfl).1) (by rw [hlen]; exact hx) (by rw [hlen]; exact hc) (by rw [hmap]; exact hj)
          rw [hmap, hlen] at h0
          refine h0.mono fun e w' ⟨he, hb⟩ => ?_
          exact ⟨[.string ⟨⟨Lib.join (x :: xs) sep⟩⟩], Φ, he, rfl, hb, fun _ _ h => h, fun _ _ h _ => h, fun b k h => Nat.lt_of_lt_of_le (hΦ b k h) hb.size, fun i u r hu hr => by
            match i, hu, hr with
            | 0, hu, hr => cases hu; cases hr; exact .str _⟩
  · cases h

theorem g_L_String (b s : Str) (h : L_String b = some s) : Good env 28 [.ref 0 0] [.bld b] [.pv (.str s)] [.gone] := by
  unfold L_String at h
  cases h
  exact Good.string (E := env) (f := 28) (fun b p v l w hB => string_x Tryz.lays169 Tryz.Builder_Extra_169 hB) b

theorem g_L_IndexByte (s : Str) (c n : Int) (h : L_IndexByte s c = some n) : Good env 31 [.pv (.str s), .pv (.int .u8 c)] [] [.pv (.int .i64 n)] [] := by
  unfold L_IndexByte at h
  cases h
  refine Good.lib (ps := [.str s, .int .u8 c]) (rs := [.int .i64 (Lib.indexByte s c.toNat.toUInt8)]) fun w Φ vs _ hΦ hl hr => ?_
  match vs, hl with
  | [x, y], _ =>
    have ha := rep_str (hr 0 x _ rfl rfl)
    have hb := rep_int (hr 1 y _ rfl rfl)
    subst ha hb
    refine (Tryz.strings_IndexByte ⟨⟨s⟩⟩ c w).mono fun e w' ⟨he, hw⟩ => ?_
    subst hw
    exact below_id (us := [.int .i64 (Lib.indexByte s c.toNat.toUInt8)]) he rfl hΦ (one_rep (.int _ _))

end Go.Abs.U5Z
