/- The library: its functions, by the shelf's contracts. -/
import Derived.Test.YtddhgkeiiobfeaaDoorA33
import Derived.Test.YtddhgkeiiobfeaaDoorLB
import Derived.Test.YtddhgkeiiobfeaaDoorL1
import Derived.Test.YtddhgkeiiobfeaaDoorL2
set_option linter.unusedSimpArgs false
namespace Go.Abs.U45
open Go.RowKit Go.Proofs

theorem g_L_WriteString (b s : Str) (n : Int) (c : Str) (h : L_WriteString b s = some (n, c)) : Good env 26 [.ref 0 0, .pv (.str s)] [.bld b] [.pv (.int .i64 n), .pv (.nil)] [.bld c] := by
  unfold L_WriteString at h
  split at h
  · rename_i hl
    cases h
    exact Good.writeString (E := env) (f := 26) (fun b p v bs w s hB hl => writeString_x Tryd.lays166 Tryd.Builder_Extra_166 s hB hl) b s hl
  · cases h

theorem g_L_String (b s : Str) (h : L_String b = some s) : Good env 27 [.ref 0 0] [.bld b] [.pv (.str s)] [.gone] := by
  unfold L_String at h
  cases h
  exact Good.string (E := env) (f := 27) (fun b p v l w hB => string_x Tryd.lays169 Tryd.Builder_Extra_169 hB) b

/-- strings.Join. -/
theorem g_L_Join (xs : List Str) (sep s : Str) (h : L_Join xs sep = some s) : Good env 38 [.pv (.slice (xs.map PV.str)), .pv (.str sep)] [] [.pv (.str s)] [] := by
  unfold L_Join at h
  split at h
  · rename_i hj
    cases h
    obtain ⟨hj, hx⟩ := hj
    refine Good.lib (ps := [.slice (xs.map PV.str), .str sep]) (rs := [.str (Lib.join xs sep)]) fun w Φ vs _ hΦ hl hr => ?_
    match vs, hl with
    | [a, b], _ =>
      have hb := rep_str (hr 1 b _ rfl rfl)
      subst hb
      rcases strs_cells (hr 0 a _ rfl rfl) with ⟨rfl, rfl⟩ | ⟨A, cap, rfl, rfl, _⟩ | ⟨bk, o, cap, rfl, hc, _, hcell⟩
      · refine (Tryd.strings_Join_none none 0 ⟨⟨sep⟩⟩ w).mono fun e w' ⟨he, hw⟩ => ?_
        subst hw
        exact ⟨[.string ⟨⟨[]⟩⟩], Φ, he, rfl, Below.refl _ _, fun _ _ h => h, fun _ _ h _ => h, hΦ, fun i u r hu hr => by
          match i, hu, hr with
          | 0, hu, hr => cases hu; cases hr; exact .str _⟩
      · refine (Tryd.strings_Join_none (some A) cap ⟨⟨sep⟩⟩ w).mono fun e w' ⟨he, hw⟩ => ?_
        subst hw
        exact ⟨[.string ⟨⟨[]⟩⟩], Φ, he, rfl, Below.refl _ _, fun _ _ h => h, fun _ _ h _ => h, hΦ, fun i u r hu hr => by
          match i, hu, hr with
          | 0, hu, hr => cases hu; cases hr; exact .str _⟩
      · cases xs with
        | nil =>
          refine (Tryd.strings_Join_none (some ⟨bk, o, none⟩) cap ⟨⟨sep⟩⟩ w).mono fun e w' ⟨he, hw⟩ => ?_
          subst hw
          exact ⟨[.string ⟨⟨[]⟩⟩], Φ, he, rfl, Below.refl _ _, fun _ _ h => h, fun _ _ h _ => h, hΦ, fun i u r hu hr => by
            match i, hu, hr with
            | 0, hu, hr => cases hu; cases hr; exact .str _⟩
        | cons x xs =>
          have hmap : ((x :: xs).map fun s => (⟨⟨s⟩⟩ : ByteArray)).map (·.data.toList) = x :: xs := by
            rw [List.map_map]
            exact List.map_id _
          have hlen : ((x :: xs).map fun s => (⟨⟨s⟩⟩ : ByteArray)).length = (x :: xs).length := List.length_map _
          have h0 := Tryd.strings_Join bk o cap ((x :: xs).map fun s => ⟨⟨s⟩⟩) ⟨⟨sep⟩⟩ w (fun j y hy => by
            rw [List.getElem?_map] at hy
            obtain ⟨s, hs, rfl⟩ := Option.map_eq_some_iff.1 hy
            exact (hcell j s hs).2) (hΦ _ _ (hcell 0 x rfl).1) (by rw [hlen]; exact hx) (by rw [hlen]; exact hc) (by rw [hmap]; exact hj)
          rw [hmap, hlen] at h0
          refine h0.mono fun e w' ⟨he, hb⟩ => ?_
          exact ⟨[.string ⟨⟨Lib.join (x :: xs) sep⟩⟩], Φ, he, rfl, hb, fun _ _ h => h, fun _ _ h _ => h, fun b k h => Nat.lt_of_lt_of_le (hΦ b k h) hb.size, fun i u r hu hr => by
            match i, hu, hr with
            | 0, hu, hr => cases hu; cases hr; exact .str _⟩
  · cases h

theorem below_id {Φ : Nat → Nat → Prop} {w : World} {rs : List PV} {us : List Value} {e : Ending} (he : e = .returned (retV us)) (hl : us.length = rs.length) (hΦ : ∀ b k, Φ b k → b < w.heap.size) (h : ∀ (i : Nat) u r, us[i]? = some u → rs[i]? = some r → Rep Φ w u r) :
    ∃ (us : List Value) (Φ' : Nat → Nat → Prop), e = .returned (retV us) ∧ us.length = rs.length ∧ Below w.heap.size w w ∧ (∀ b k, Φ b k → Φ' b k) ∧ (∀ b k, Φ' b k → b < w.heap.size → Φ b k) ∧ (∀ b k, Φ' b k → b < w.heap.size) ∧ ∀ (i : Nat) u r, us[i]? = some u → rs[i]? = some r → Rep Φ' w u r :=
  ⟨us, Φ, he, hl, Below.refl _ _, fun _ _ h => h, fun _ _ h _ => h, hΦ, h⟩

theorem one_rep {Φ : Nat → Nat → Prop} {w : World} {v : Value} {p : PV} (h : Rep Φ w v p) : ∀ (i : Nat) u r, [v][i]? = some u → [p][i]? = some r → Rep Φ w u r := by
  intro i u r hu hr
  match i, hu, hr with
  | 0, hu, hr => cases hu; cases hr; exact h

theorem flat_strs (xs : List Str) : flat (xs.map PV.str) = xs.map PV.str := by
  induction xs with
  | nil => rfl
  | cons x xs ih => rw [List.map_cons, flat_cons, ih]; rfl

/-- A row of strings in a new block. -/
theorem strs_new {Φ : Nat → Nat → Prop} {w : World} {b cap : Nat} (xs : List Str) (hc : xs.length ≤ cap) (hm : cap ≤ maxLen) (hcell : ∀ (k : Nat) x, xs[k]? = some x → Φ b k ∧ w.cell? ⟨b, k, none⟩ = some (.string ⟨⟨x⟩⟩)) : Rep Φ w (.slice (some ⟨b, 0, none⟩) xs.length cap) (.slice (xs.map PV.str)) := by
  refine .slice b 0 xs.length cap 1 (xs.map PV.str) (fun k => .string ⟨⟨xs.getD k []⟩⟩) (List.length_map _) hc hm (fun x hx => ?_) (fun c hc => ?_) (fun k hk => ?_) (fun k c hcc => ?_)
  · obtain ⟨y, _, rfl⟩ := List.mem_map.1 hx
    rfl
  · rw [flat_strs] at hc
    obtain ⟨y, _, rfl⟩ := List.mem_map.1 hc
    rfl
  · rw [flat_strs, List.length_map] at hk
    have := hcell k xs[k] (List.getElem?_eq_getElem hk)
    rw [Nat.zero_add, List.getD_eq_getElem?_getD, List.getElem?_eq_getElem hk]
    exact this
  · rw [flat_strs, List.getElem?_map] at hcc
    obtain ⟨y, hy, rfl⟩ := Option.map_eq_some_iff.1 hcc
    have : xs.getD k [] = y := by rw [List.getD_eq_getElem?_getD, hy]; rfl
    rw [this]
    exact .str y

/-- strings.Split. -/
theorem g_L_Split (s sep : Str) (l : List Str) (h : L_Split s sep = some l) : Good env 28 [.pv (.str s), .pv (.str sep)] [] [.pv (.slice (l.map PV.str))] [] := by
  unfold L_Split at h
  split at h
  · rename_i hh
    cases h
    obtain ⟨hs, h1⟩ := hh
    refine Good.lib (ps := [.str s, .str sep]) (rs := [.slice ((splitS s sep).map PV.str)]) fun w Φ vs ⟨m, hm⟩ hΦ hl hr => ?_
    match vs, hl with
    | [a, b], _ =>
      have ha := rep_str (hr 0 a _ rfl rfl)
      have hb := rep_str (hr 1 b _ rfl rfl)
      subst ha hb
      refine (Tryd.strings_Split ⟨⟨s⟩⟩ ⟨⟨sep⟩⟩ m w hs hm h1).mono fun e w' ⟨he, hw⟩ => ?_
      subst hw
      have hlen : (splitS s sep).length = Lib.countB ⟨⟨s⟩⟩ ⟨⟨sep⟩⟩ + 1 := by
        unfold splitS
        rw [List.length_map]
        exact Lib.splitB_all ⟨⟨sep⟩⟩ h1 0 _ ⟨⟨s⟩⟩ rfl
      have hle : Lib.countB ⟨⟨s⟩⟩ ⟨⟨sep⟩⟩ ≤ s.length := Lib.countB_le ⟨⟨sep⟩⟩ h1 s.length ⟨⟨s⟩⟩ (Nat.le_refl _)
      rw [← hlen] at he
      refine ⟨[.slice (some ⟨w.heap.size, 0, none⟩) (splitS s sep).length (splitS s sep).length], fun b k => Φ b k ∨ (b = w.heap.size ∧ k < (splitS s sep).length), he, rfl, ⟨rfl, rfl, rfl, ?_, fun k hk => Below.heap_alloc w _ k hk⟩, fun _ _ h => .inl h, fun b k h hb => ?_, fun b k h => ?_, one_rep ?_⟩
      · show w.heap.size ≤ (w.heap.push _).size
        simp
      · rcases h with h | ⟨h, _⟩
        · exact h
        · omega
      · show b < (w.heap.push _).size
        rw [Array.size_push]
        rcases h with h | ⟨h, _⟩
        · have := hΦ b k h
          omega
        · omega
      · refine strs_new _ (Nat.le_refl _) (by rw [hlen]; unfold maxLen; omega) (fun k x hx => ⟨.inr ⟨rfl, (List.getElem?_eq_some_iff.1 hx).1⟩, ?_⟩)
        unfold splitS at hx
        rw [List.getElem?_map] at hx
        obtain ⟨y, hy, rfl⟩ := Option.map_eq_some_iff.1 hx
        have hn := heap_alloc_new w (.cells ((Lib.splitB ⟨⟨sep⟩⟩ 0 (Lib.countB ⟨⟨s⟩⟩ ⟨⟨sep⟩⟩) ⟨⟨s⟩⟩).map Value.string).toArray 9)
        unfold World.cell?
        simp only [hn]
        simp [hy]
  · cases h

/-- strings.IndexByte. -/
theorem g_L_IndexByte (s : Str) (c n : Int) (h : L_IndexByte s c = some n) : Good env 31 [.pv (.str s), .pv (.int .u8 c)] [] [.pv (.int .i64 n)] [] := by
  unfold L_IndexByte at h
  cases h
  refine Good.lib (ps := [.str s, .int .u8 c]) (rs := [.int .i64 (Lib.indexByte s c.toNat.toUInt8)]) fun w Φ vs _ hΦ hl hr => ?_
  match vs, hl with
  | [x, y], _ =>
    have ha := rep_str (hr 0 x _ rfl rfl)
    have hb := rep_int (hr 1 y _ rfl rfl)
    subst ha hb
    refine (Tryd.strings_IndexByte ⟨⟨s⟩⟩ c w).mono fun e w' ⟨he, hw⟩ => ?_
    subst hw
    exact below_id (us := [.int .i64 (Lib.indexByte s c.toNat.toUInt8)]) he rfl hΦ (one_rep (.int _ _))

/-- strings.ReplaceAll. -/
theorem g_L_ReplaceAll (s old new t : Str) (h : L_ReplaceAll s old new = some t) : Good env 49 [.pv (.str s), .pv (.str old), .pv (.str new)] [] [.pv (.str t)] [] := by
  unfold L_ReplaceAll at h
  split at h
  · rename_i hc
    cases h
    obtain ⟨h1, h2, h3⟩ := hc
    refine Good.lib (ps := [.str s, .str old, .str new]) (rs := [.str (Lib.replaceAll s old new)]) fun w Φ vs ⟨m, hm⟩ hΦ hl hr => ?_
    match vs, hl with
    | [x, y, z], _ =>
      have ha := rep_str (hr 0 x _ rfl rfl)
      have hb := rep_str (hr 1 y _ rfl rfl)
      have hc := rep_str (hr 2 z _ rfl rfl)
      subst ha hb hc
      refine (Tryd.strings_ReplaceAll ⟨⟨s⟩⟩ ⟨⟨old⟩⟩ ⟨⟨new⟩⟩ m w h1 hm h2 h3).mono fun e w' ⟨he, hb⟩ => ?_
      exact ⟨[.string ⟨⟨Lib.replaceAll s old new⟩⟩], Φ, he, rfl, hb, fun _ _ h => h, fun _ _ h _ => h, fun b k h => Nat.lt_of_lt_of_le (hΦ b k h) hb.size, one_rep (.str _)⟩
  · cases h

end Go.Abs.U45
