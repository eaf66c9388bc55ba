/- slices.Insert of one element of several cells, in front of the end: walks. -/
import Derived.Test.YtkiajanddmgmnaaGreatDoorLC
import Derived.Test.YtkiajanddmgmnaaGreatDoorA46
import Derived.Shelf.Spec.SlicesInsertGrow
set_option linter.unusedSimpArgs false
set_option linter.unusedVariables false
namespace Go.Abs.U2Z
open Go.RowKit Go.Proofs Go.Lib

/-- slices.overlaps at two slices in two blocks, the second a row of which no cell is frozen. -/
theorem run_overlaps_row {P : Program} (w : World) (tS tR e : TypeId) (ht : P.underlying tS = some (.slice e)) (size : Nat) (hz : ∀ w, (Go.sizeOf e).run P w = .ok size w)
    (a b : Addr) (la ca lb cb : Nat) (hne : a.block ≠ b.block) (tA tB : TypeId) (kA kB : Nat)
    (hsa : w.shape? a.block = some (tA, kA)) (hsb : w.shape? b.block = some (tB, kB)) (hkA : kA ≠ 0)
    (hfb : w.frozen? b = false) (hfe : w.frozen? { block := b.block, off := kB } = false) :
    (Extern.SlicesOverlaps.overlaps #[tS, tS] #[tR] #[.slice (some a) la ca, .slice (some b) lb cb]).run P w = .ok (.bool false) w := by
  have hnb : (a.block != b.block) = true := by simpa using hne
  have hnb' : (a.block == b.block) = false := by simpa using hne
  change Sem.run P (α := Value) (do
    let some t := (#[tS, tS] : Array TypeId)[0]? | stuck "slices.overlaps: no parameter types"
    let .slice elem ← underlying t | stuck "slices.overlaps: slice type expected"
    let size ← sizeOf elem
    match (some a : Option Addr), (some b : Option Addr) with
    | some a, some b =>
      if la = 0 ∨ lb = 0 ∨ size = 0 then pure (Value.bool false)
      else if a.block != b.block && (← frozen a) && (← frozen b) then unsupported .addressObserved
      else do
        if a.block != b.block then do
          noView a; noView b
          if ← mayBeOne a b then return Value.bool ((← choose (.extern "sameAddr.stringBytes" 2)) == 1)
        pure (Value.bool (a.block == b.block && a.off < b.off + lb * size && b.off < a.off + la * size))
    | _, _ => pure (Value.bool false)) w = _
  by_cases h0 : la = 0 ∨ lb = 0 ∨ size = 0
  · simp [run_underlying ht, hz, h0]
  · cases kA with
    | zero => exact absurd rfl hkA
    | succ kA =>
      cases hfa : w.frozen? a with
      | false =>
        cases hfa2 : w.frozen? { block := a.block, off := kA + 1 } <;> simp [run_underlying ht, hz, h0, hnb, hnb', frozen, noView, viewAt, mayBeOne, stringish, shape, Sem.run, hsa, hsb, hfa, hfb, hfe, hfa2]
      | true => simp [run_underlying ht, hz, h0, hnb, hnb', frozen, noView, viewAt, mayBeOne, stringish, shape, Sem.run, hsa, hsb, hfa, hfb, hfe]

theorem run_copy_cellsN {P : Program} (w : World) (dT sT ty elem : TypeId) (b o dLen dCap : Nat) (a : Addr) (sLen sCap size : Nat) (cs : List Value)
    (hu : P.underlying dT = some (.slice elem)) (hs : (P.info? elem).map (·.size) = some size) (hn : cs.length = Nat.min sLen dLen * size)
    (hsrc : ∀ j v, cs[j]? = some v → w.cell? (a.add j) = some v) (hc : ∀ j, j < cs.length → (w.cell? ⟨b, o + j, none⟩).isSome = true) (hf : ∀ j, j < cs.length → w.frozen? ⟨b, o + j, none⟩ = false) (h1 : ∀ v ∈ cs, v.oneCell' = true) :
    (Builtin.copy_ #[dT, sT] ty #[.slice (some ⟨b, o, none⟩) dLen dCap, .slice (some a) sLen sCap]).run P w = .ok (goInt (Nat.min sLen dLen)) (w.setCells b o cs) := by
  have hl := run_loadCells_list (P := P) w a cs hsrc
  have hst := run_storeCells_cells (P := P) b o cs 0 w (by simpa using hc) (by simpa using hf) h1
  cases hq : P.info? elem with
  | none => simp [hq] at hs
  | some i =>
    have hi : i.size = size := by simpa [hq] using hs
    rw [hn] at hl
    simp [Builtin.copy_, run_underlying hu, Builtin.lenOf, Builtin.firstCells, sizeOf, typeInfo, hq, hi, hl, hst]

theorem shape_of_cell {w : World} {a : Addr} {u : Value} (h : w.cell? a = some u) : ∃ t k, w.shape? a.block = some (t, k) ∧ k ≠ 0 := by
  unfold World.cell? at h
  unfold World.shape?
  split at h
  · rename_i c e f hb
    refine ⟨e, c.size, rfl, fun h0 => ?_⟩
    have hc : c = #[] := Array.eq_empty_of_size_eq_zero h0
    subst hc
    simp at h
  all_goals cases h


set_option maxHeartbeats 4000000 in
set_option maxRecDepth 100000 in
/-- slices.Insert of one element: there is room: in place. -/
theorem insert_shift (b n c i : Nat) (a : Addr) (vc : Nat) (cs vs : List Value) (w : World) (hi : i < n) (hroom : n + 1 ≤ c) (hc63 : c ≤ 9223372036854775807) (hvb : a.block ≠ b)
    (hcl : cs.length = n * 3) (hvl : vs.length = 3)
    (hcs : ∀ (j : Nat) v, cs[j]? = some v → w.cell? ⟨b, j, none⟩ = some v) (hsp : ∀ j, j < (n + 1) * 3 → (w.cell? ⟨b, j, none⟩).isSome = true) (hfz : ∀ j, w.frozen? ⟨b, j, none⟩ = false)
    (hvs : ∀ (j : Nat) v, vs[j]? = some v → w.cell? (a.add j) = some v) (h1c : ∀ v ∈ cs, v.oneCell' = true) (h1v : ∀ v ∈ vs, v.oneCell' = true)
    (tA tB : TypeId) (kA kB : Nat) (hsa : w.shape? a.block = some (tA, kA)) (hsb : w.shape? b = some (tB, kB)) (hkA : kA ≠ 0) :
    Calls Tryz.prog 35 #[.slice (some ⟨b, 0, none⟩) n c, .int .i64 i, .slice (some a) 1 vc] w fun e w' =>
      e = .returned (.slice (some ⟨b, 0, none⟩) (n + 1) c) ∧ w' = (w.drew.setCells b ((i + 1) * 3) (cs.drop (i * 3))).setCells b (i * 3) vs := by
  have mixed : Tryz.prog.follows .mixedOrders = true := by kernel_rfl
  have t3 := Tryz.underlying3; have a3 := Tryz.isAgg3; have z3 := Tryz.sizeOf3; have v3 := Tryz.zeroValue3; have t4 := Tryz.underlying4; have a4 := Tryz.isAgg4; have z4 := Tryz.sizeOf4; have v4 := Tryz.zeroValue4
  have tS := Tryz.underlying22; have aS := Tryz.isAgg22; have zS := Tryz.sizeOf22; have vS := Tryz.zeroValue22
  have zE := Tryz.sizeOf34
  have u3 := run_underlying t3; have u4 := run_underlying t4; have uS := run_underlying tS
  have hz1 : ¬ ((1 : Int) = 0) := by omega
  have hz2 : ¬ ((i : Int) = (n : Int)) := by omega
  have hsz : (Tryz.prog.info? 34).map (·.size) = some 3 := by
    obtain ⟨i0, hi0, h0, h1, h2⟩ := info_parts info34
    rw [hi0]; simp [h1]
  have hov : ∀ lb cb, (callFunc 63 #[.slice (some a) 1 vc, .slice (some ⟨b, (i + 1) * 3, none⟩) lb cb]).run Tryz.prog w = .ok (.value (.bool false)) w := fun lb cb => by
    rw [run_callFunc_extern Tryz.func63 (by kernel_rfl) (by kernel_rfl) (by kernel_rfl) (e := Extern.SlicesOverlaps.overlaps #[22, 22] #[4]) (by kernel_rfl),
      run_overlaps_row w 22 4 34 tS 3 zE a ⟨b, (i + 1) * 3, none⟩ 1 vc lb cb hvb tA tB kA kB hsa hsb hkA (hfz _) (hfz _)]
    rfl
  have hdl : (cs.drop (i * 3)).length = (n - i) * 3 := by rw [List.length_drop, hcl, Nat.sub_mul]
  have hw1 : IntKind.i64.wrap ((i : Int) + 1) = (i : Int) + 1 := by rw [IntKind.wrap_i64]; omega
  have hb1 : (0 : Int) ≤ (i : Int) + 1 := by omega
  have hin : i ≤ n := by omega
  have htn : ((i : Int) + 1).toNat = i + 1 := by omega
  have hb2 : ¬ (c = i + 1) := by omega
  have hb3 : (i : Int) ≤ (n : Int) + 1 := by omega
  have hb4 : ¬ (c = i) := by omega
  have hmin : Nat.min (n + 1 - i) (n - i) = n - i := by simp only [Nat.min_def]; split <;> omega
  have hcp1 : ∀ ty dc sc, (Builtin.copy_ #[22, 22] ty #[.slice (some ⟨b, (i + 1) * 3, none⟩) (n - i) dc, .slice (some ⟨b, i * 3, none⟩) (n + 1 - i) sc]).run Tryz.prog w.drew = .ok (goInt ((n - i : Nat) : Int)) (w.drew.setCells b ((i + 1) * 3) (cs.drop (i * 3))) := fun ty dc sc => by
    have := run_copy_cellsN (P := Tryz.prog) w.drew 22 22 ty 34 b ((i + 1) * 3) (n - i) dc ⟨b, i * 3, none⟩ (n + 1 - i) sc 3 (cs.drop (i * 3)) tS hsz (by rw [hdl, hmin])
      (fun j v hj => by rw [Addr.add_lit]; exact hcs (i * 3 + j) v (by rwa [List.getElem?_drop] at hj))
      (fun j hj => hsp _ (by omega)) (fun j hj => hfz _) (fun v hv => h1c v (List.mem_of_mem_drop hv))
    rw [hmin] at this
    exact this
  obtain ⟨W1, hW1⟩ : ∃ W1, W1 = w.drew.setCells b ((i + 1) * 3) (cs.drop (i * 3)) := ⟨_, rfl⟩
  have hsp1 : ∀ k, k < (n + 1) * 3 → (W1.cell? ⟨b, k, none⟩).isSome = true := fun k hk => by
    rw [hW1]
    exact World.isSome_setCells b _ _ _ _ (hsp k hk)
  have hcp2 : ∀ (W : World), (∀ x, W.cell? x = W1.cell? x) → (∀ x, W.frozen? x = W1.frozen? x) → ∀ ty dc, (Builtin.copy_ #[22, 22] ty #[.slice (some ⟨b, i * 3, none⟩) (n + 1 - i) dc, .slice (some a) 1 vc]).run Tryz.prog W = .ok (goInt 1) (W.setCells b (i * 3) vs) := fun W hWc hWf ty dc => by
    have hm1 : Nat.min 1 (n + 1 - i) = 1 := by simp only [Nat.min_def]; split <;> omega
    have := run_copy_cellsN (P := Tryz.prog) W 22 22 ty 34 b (i * 3) (n + 1 - i) dc a 1 vc 3 vs tS hsz (by rw [hvl, hm1])
      (fun j v hj => by
        rw [hWc, hW1, World.cell?_setCells_out b _ _ _ (a.add j) (fun h _ => absurd (show a.block = b by rw [← h]; unfold Addr.add; split <;> rfl) hvb)]
        exact hvs j v hj)
      (fun j hj => by rw [hWc]; exact hsp1 _ (by omega)) (fun j hj => by rw [hWf, hW1, World.frozen?_setCells]; exact hfz _) h1v
    rw [hm1] at this
    exact this
  rw [← hW1] at hcp1
  clear hcs hsp hfz hvs hsa hsb hdl hmin hsp1 hcl
  go_enter Tryz.func35, Tryz.ntmps35
  go_wp2_with (simp only [hov])
  go_region_law_o (refine step_copy_runI rfl _ _ 22 22 rfl _ _ (by simp [Act.eval, Act.put]) (by simp [Act.eval, Act.put]) (hcp1 _ _ _) ?_)
  go_wp2_with (at_builtin; refine wpList_copy_runI _ rfl _ _ 22 22 rfl _ _ rfl rfl (hcp2 _ (fun _ => rfl) (fun _ => rfl) _ _) ?_)
  go_ret
  first | exact ⟨rfl, rfl⟩ | exact ⟨rfl, by rw [hW1]⟩

set_option maxHeartbeats 4000000 in
set_option maxRecDepth 100000 in
/-- slices.Insert of one element: there is no room: a new row. -/
theorem insert_grow (b n c i : Nat) (a : Addr) (vc : Nat) (cs vs : List Value) (w : World) (hi : i < n) (hnc : n ≤ c) (hroom : c < n + 1) (hn : n ≤ 1000000) (hbw : b < w.heap.size) (haw : a.block < w.heap.size)
    (hcl : cs.length = n * 3) (hvl : vs.length = 3)
    (hcs : ∀ (j : Nat) v, cs[j]? = some v → w.cell? ⟨b, j, none⟩ = some v)
    (hvs : ∀ (j : Nat) v, vs[j]? = some v → w.cell? (a.add j) = some v) (h1c : ∀ v ∈ cs, v.oneCell' = true) (h1v : ∀ v ∈ vs, v.oneCell' = true) :
    Calls Tryz.prog 35 #[.slice (some ⟨b, 0, none⟩) n c, .int .i64 i, .slice (some a) 1 vc] w fun e w' =>
      ∃ ROW : Array Value, ROW.size = grownCap w (n + 1) c 34 * 3 ∧ (∀ j, j < i * 3 → ROW[j]? = cs[j]?) ∧ e = .returned (.slice (some ⟨w.heap.size, 0, none⟩) (n + 1) (grownCap w (n + 1) c 34)) ∧
      w' = (((w.alloc (.cells ROW 34)).drew.setCells w.heap.size (i * 3) vs).drew).setCells w.heap.size ((i + 1) * 3) (cs.drop (i * 3)) := by
  have mixed : Tryz.prog.follows .mixedOrders = true := by kernel_rfl
  have t3 := Tryz.underlying3; have a3 := Tryz.isAgg3; have z3 := Tryz.sizeOf3; have v3 := Tryz.zeroValue3; have t4 := Tryz.underlying4; have a4 := Tryz.isAgg4; have z4 := Tryz.sizeOf4; have v4 := Tryz.zeroValue4
  have tS := Tryz.underlying22; have aS := Tryz.isAgg22; have zS := Tryz.sizeOf22; have vS := Tryz.zeroValue22
  have zE := Tryz.sizeOf34
  have u3 := run_underlying t3; have u4 := run_underlying t4; have uS := run_underlying tS
  obtain ⟨i0, hi0, hz0, hzs, hzb⟩ := info_parts info34
  have hz1 : ¬ ((1 : Int) = 0) := by omega
  have hz2 : ¬ ((i : Int) = (n : Int)) := by omega
  have hz3 : (c : Int) < (n : Int) + 1 := by omega
  have hsz : (Tryz.prog.info? 34).map (·.size) = some 3 := by rw [hi0]; simp [hzs]
  have hkk : (n : Int) + 1 - (i : Int) = ((n + 1 - i : Nat) : Int) := by omega
  have hik : i + (n + 1 - i) = n + 1 := by omega
  have hold : (Builtin.firstCells i0.size i (.slice (some ⟨b, 0, none⟩) i c)).run Tryz.prog w.drew = .ok (cs.take (i * 3)).toArray w.drew := by
    rw [hzs]
    exact run_firstCells_some w.drew 3 i ⟨b, 0, none⟩ i c (cs.take (i * 3)) (by rw [List.length_take, hcl]; omega) (fun j v hj => by
      rw [Addr.add_lit, Nat.zero_add]
      rw [List.getElem?_take] at hj
      split at hj
      · exact hcs j v hj
      · cases hj)
  obtain ⟨ROW, hROW⟩ : ∃ ROW : Array Value, ROW = (cs.take (i * 3)).toArray ++ Builtin.zeroCells (Value.agg #[.int .i64 0, .int .i64 0, .slice none 0 0]).cells (n + 1 - i) ++ Builtin.zeroCells (Value.agg #[.int .i64 0, .int .i64 0, .slice none 0 0]).cells (grownCap w (n + 1) c 34 - (n + 1)) := ⟨_, rfl⟩
  have hrz : ∀ ty, (Builtin.append_ #[22, 3] ty #[.slice (some ⟨b, 0, none⟩) i c, .int .i64 ((n : Int) + 1 - (i : Int))]).run Tryz.prog w =
      .ok (.slice (some ⟨w.heap.size, 0, none⟩) (n + 1) (grownCap w (n + 1) c 34)) (w.drew.alloc (.cells ROW 34)) := fun ty => by
    have h := Lib.run_append_grow_zeros w 22 3 ty 34 i0 _ .i64 .i64 tS t3 hi0 hz0 (some ⟨b, 0, none⟩) i c (cs.take (i * 3)) hold (n + 1 - i) (by omega) (by omega) (by omega) (by omega) (by rw [hzb]; omega) (by rw [hzb, hik]; exact growslice_fits hroom (by omega))
    rw [hik, ← hROW] at h
    rw [hkk]
    exact h
  obtain ⟨G, hG⟩ : ∃ G, G = grownCap w (n + 1) c 34 := ⟨_, rfl⟩
  have hGn : n + 1 ≤ G := by rw [hG]; exact grownCap_ge w _ _ _
  have hG63 : G ≤ 9223372036854775807 := by
    have := grownCap_le_maxLen w (n + 1) c 34 (by unfold maxLen; omega)
    rw [← hG] at this
    unfold maxLen at this
    omega
  rw [← hG] at hrz ⊢
  have hRl : ROW.size = G * 3 := by
    have htl : (cs.take (i * 3)).length = i * 3 := by rw [List.length_take, hcl]; omega
    rw [hROW, ← hG]
    simp [Builtin.zeroCells, Value.cells, htl]
    omega
  have hRi : ∀ j, j < i * 3 → ROW[j]? = cs[j]? := fun j hj => by
    have htl : (cs.take (i * 3)).length = i * 3 := by rw [List.length_take, hcl]; omega
    rw [hROW, Array.append_assoc, Array.getElem?_append_left (by simp [htl]; omega)]
    simp [List.getElem?_take, hj]
  obtain ⟨W1, hW1⟩ : ∃ W1, W1 = w.drew.alloc (.cells ROW 34) := ⟨_, rfl⟩
  rw [← hW1] at hrz
  have hN : ∀ j, j < (n + 1) * 3 → (W1.cell? ⟨w.heap.size, j, none⟩).isSome = true := fun j hj => by
    rw [hW1, World.cell?_alloc_at (w := w.drew) ROW _ w.heap.size j rfl, Array.getElem?_eq_getElem (by omega)]; rfl
  have hNf : ∀ j, W1.frozen? ⟨w.heap.size, j, none⟩ = false := fun j => by rw [hW1]; exact World.frozen?_alloc_at (w := w.drew) ROW _ w.heap.size j rfl
  have hOb : ∀ j v, w.cell? ⟨b, j, none⟩ = some v → W1.cell? ⟨b, j, none⟩ = some v := fun j v h => by rw [hW1, World.cell?_alloc_past (w := w.drew) _ b j hbw]; exact h
  have hab : ∀ j, (a.add j).block = a.block := fun j => by unfold Addr.add; split <;> rfl
  have hOv : ∀ j v, w.cell? (a.add j) = some v → W1.cell? (a.add j) = some v := fun j v h => by rw [hW1]; exact Lib.cell?_alloc_some _ h
  have hmA : Nat.min 1 (n + 1 - i) = 1 := by simp only [Nat.min_def]; split <;> omega
  have hcpA : ∀ (W : World), (∀ x, W.cell? x = W1.cell? x) → (∀ x, W.frozen? x = W1.frozen? x) → ∀ ty dc, (Builtin.copy_ #[22, 22] ty #[.slice (some ⟨w.heap.size, i * 3, none⟩) (n + 1 - i) dc, .slice (some a) 1 vc]).run Tryz.prog W = .ok (goInt 1) (W.setCells w.heap.size (i * 3) vs) := fun W hWc hWf ty dc => by
    have := run_copy_cellsN (P := Tryz.prog) W 22 22 ty 34 w.heap.size (i * 3) (n + 1 - i) dc a 1 vc 3 vs tS hsz (by rw [hvl, hmA])
      (fun j v hj => by rw [hWc]; exact hOv _ v (hvs j v hj))
      (fun j hj => by rw [hWc]; exact hN _ (by omega)) (fun j hj => by rw [hWf]; exact hNf _) h1v
    rw [hmA] at this
    exact this
  have hGi : ¬ (G = i) := by omega
  have hGim : ¬ (G = i + 1) := by omega
  have hci : ¬ (c = i) := by omega
  have hbN : b ≠ w.heap.size := by omega
  have hdl : (cs.drop (i * 3)).length = (n - i) * 3 := by rw [List.length_drop, hcl, Nat.sub_mul]
  have hmB : Nat.min (n - i) (n - i) = n - i := by simp only [Nat.min_def]; split <;> omega
  have hcpB : ∀ (W : World), (∀ x, W.cell? x = (W1.setCells w.heap.size (i * 3) vs).cell? x) → (∀ x, W.frozen? x = (W1.setCells w.heap.size (i * 3) vs).frozen? x) → ∀ ty dc sc, (Builtin.copy_ #[22, 22] ty #[.slice (some ⟨w.heap.size, (i + 1) * 3, none⟩) (n - i) dc, .slice (some ⟨b, i * 3, none⟩) (n - i) sc]).run Tryz.prog W = .ok (goInt ((n - i : Nat) : Int)) (W.setCells w.heap.size ((i + 1) * 3) (cs.drop (i * 3))) := fun W hWc hWf ty dc sc => by
    have := run_copy_cellsN (P := Tryz.prog) W 22 22 ty 34 w.heap.size ((i + 1) * 3) (n - i) dc ⟨b, i * 3, none⟩ (n - i) sc 3 (cs.drop (i * 3)) tS hsz (by rw [hdl, hmB])
      (fun j v hj => by
        rw [Addr.add_lit, hWc, World.cell?_setCells_out _ _ _ _ _ (fun h _ => absurd h hbN)]
        exact hOb _ v (hcs (i * 3 + j) v (by rwa [List.getElem?_drop] at hj)))
      (fun j hj => by rw [hWc]; exact World.isSome_setCells _ _ _ _ _ (hN _ (by omega)))
      (fun j hj => by rw [hWf, World.frozen?_setCells]; exact hNf _) (fun v hv => h1c v (List.mem_of_mem_drop hv))
    rw [hmB] at this
    exact this
  subst hW1
  have hE1 : ∀ x, ((w.alloc (.cells ROW 34)).drew).cell? x = (w.drew.alloc (.cells ROW 34)).cell? x := fun x => rfl
  have hE2 : ∀ x, ((w.alloc (.cells ROW 34)).drew).frozen? x = (w.drew.alloc (.cells ROW 34)).frozen? x := fun x => rfl
  have hF1 : ∀ x, (((w.alloc (.cells ROW 34)).drew.setCells w.heap.size (i * 3) vs).drew).cell? x = ((w.drew.alloc (.cells ROW 34)).setCells w.heap.size (i * 3) vs).cell? x := fun x => rfl
  have hF2 : ∀ x, (((w.alloc (.cells ROW 34)).drew.setCells w.heap.size (i * 3) vs).drew).frozen? x = ((w.drew.alloc (.cells ROW 34)).setCells w.heap.size (i * 3) vs).frozen? x := fun x => rfl
  have hw1 : IntKind.i64.wrap ((i : Int) + 1) = (i : Int) + 1 := by rw [IntKind.wrap_i64]; omega
  have hb1 : (0 : Int) ≤ (i : Int) + 1 := by omega
  have hin : i ≤ n := by omega
  have htn : ((i : Int) + 1).toNat = i + 1 := by omega
  have hb3 : (i : Int) ≤ (n : Int) := by omega
  have X : Hid (ROW.size = G * 3 ∧ ∀ j, j < i * 3 → ROW[j]? = cs[j]?) := ⟨hRl, hRi⟩
  clear hkk hik hold hROW hG hRl hRi hN hNf hOb hOv hcs hvs hdl hmA hmB hab hcl hz0
  go_enter Tryz.func35, Tryz.ntmps35
  go_wp2_with (first
    | (at_builtin; refine Lib.wpList_append_run _ rfl _ _ _ _ rfl _ _ rfl rfl _ _ (hrz _) ?_)
    | (at_builtin; refine wpList_copy_runI _ rfl _ _ 22 22 rfl _ _ rfl rfl (hcpA _ hE1 hE2 _ _) ?_)
    | (at_builtin; refine wpList_copy_runI _ rfl _ _ 22 22 rfl _ _ rfl rfl (hcpB _ (fun _ => rfl) (fun _ => rfl) _ _ _) ?_))
  go_region_law_o (refine step_copy_runI rfl _ _ 22 22 rfl (.slice (some ⟨w.heap.size, (i + 1) * 3, none⟩) (n - i) (G - (i + 1))) (.slice (some ⟨b, i * 3, none⟩) (n - i) (c - i)) (by simp [Act.eval, Act.put]) (by simp [Act.eval, Act.put]) (hcpB _ hF1 hF2 3 (G - (i + 1)) (c - i)) ?_)
  go_wp2
  go_ret
  exact ⟨ROW, X.out.1, X.out.2, rfl, rfl⟩

theorem grew_set {w : World} {b n c m d k1 k2 : Nat} {l1 l2 : List Value} : Grew w ((w.drew.setCells b k1 l1).setCells b k2 l2) (.slice (some ⟨b, 0, none⟩) n c) (.slice (some ⟨b, 0, none⟩) m d) := by
  obtain ⟨a1, a2, a3, a4, a5⟩ := setCells_same b l1 k1 w.drew
  obtain ⟨b1, b2, b3, b4, b5⟩ := setCells_same b l2 k2 (w.drew.setCells b k1 l1)
  refine ⟨b1.trans a1, b2.trans a2, b3.trans a3, by rw [b4, a4]; exact Nat.le_refl _, .inr ⟨rfl, b4.trans a4, fun q hq => ?_⟩⟩
  have hqb : q ≠ b := fun e => hq (by rw [e]; rfl)
  rw [b5 q hqb, a5 q hqb]
  rfl

/-- The cells of a row with one element more. -/
theorem ins_cells {cur cells news : List Value} {n i s : Nat} (hi : i ≤ n) (hc : cells.length = n * 3) (hl : news.length = 3) (hs : (n + 1) * 3 ≤ cur.length) (hcur : ∀ j, j < i * 3 → cur[j]? = cells[j]?) :
    (putVs (putVs cur ((i + 1) * 3) (cells.drop (i * 3))) (i * 3) news).take ((n + 1) * 3) = cells.take (i * 3) ++ news ++ cells.drop (i * 3) ∧
      (putVs (putVs cur (i * 3) news) ((i + 1) * 3) (cells.drop (i * 3))).take ((n + 1) * 3) = cells.take (i * 3) ++ news ++ cells.drop (i * 3) := by
  have hd : (cells.drop (i * 3)).length = n * 3 - i * 3 := by rw [List.length_drop, hc]
  have ht : (cells.take (i * 3)).length = i * 3 := by rw [List.length_take, hc]; omega
  have g1 : ∀ j, (putVs cur ((i + 1) * 3) (cells.drop (i * 3)))[j]? = if (i + 1) * 3 ≤ j ∧ j < (i + 1) * 3 + (cells.drop (i * 3)).length then (cells.drop (i * 3))[j - (i + 1) * 3]? else cur[j]? := fun j => putVs_get (by rw [hd]; omega) j
  have g2 : ∀ j, (putVs cur (i * 3) news)[j]? = if i * 3 ≤ j ∧ j < i * 3 + news.length then news[j - i * 3]? else cur[j]? := fun j => putVs_get (by rw [hl]; omega) j
  have l1 : (putVs cur ((i + 1) * 3) (cells.drop (i * 3))).length = cur.length := putVs_length (by rw [hd]; omega)
  have l2 : (putVs cur (i * 3) news).length = cur.length := putVs_length (by rw [hl]; omega)
  have rhs : ∀ j, (cells.take (i * 3) ++ news ++ cells.drop (i * 3))[j]? = if j < i * 3 then cells[j]? else if j < i * 3 + 3 then news[j - i * 3]? else cells[j - 3]? := by
    intro j
    by_cases h1 : j < i * 3
    · rw [if_pos h1, List.append_assoc, List.getElem?_append_left (by omega), List.getElem?_take, if_pos h1]
    · rw [if_neg h1]
      by_cases h2 : j < i * 3 + 3
      · rw [if_pos h2, List.getElem?_append_left (by rw [List.length_append]; omega), List.getElem?_append_right (by omega), ht]
      · rw [if_neg h2, List.getElem?_append_right (by rw [List.length_append]; omega), List.length_append, ht, hl, List.getElem?_drop]
        congr 1
        omega
  constructor
  · refine List.ext_getElem? fun j => ?_
    rw [rhs, List.getElem?_take]
    by_cases hj : j < (n + 1) * 3
    · rw [if_pos hj, putVs_get (by rw [l1, hl]; omega), g1, hl, hd]
      by_cases h1 : j < i * 3
      · rw [if_pos h1, if_neg (by omega), if_neg (by omega), hcur j h1]
      · rw [if_neg h1]
        by_cases h2 : j < i * 3 + 3
        · rw [if_pos h2, if_pos (by omega)]
        · rw [if_neg h2, if_neg (by omega), if_pos (by omega), List.getElem?_drop]
          congr 1
          omega
    · rw [if_neg hj, if_neg (by omega), if_neg (by omega), List.getElem?_eq_none (by omega)]
  · refine List.ext_getElem? fun j => ?_
    rw [rhs, List.getElem?_take]
    by_cases hj : j < (n + 1) * 3
    · rw [if_pos hj, putVs_get (by rw [l2, hd]; omega), g2, hl, hd]
      by_cases h1 : j < i * 3
      · rw [if_pos h1, if_neg (by omega), if_neg (by omega), hcur j h1]
      · rw [if_neg h1]
        by_cases h2 : j < i * 3 + 3
        · rw [if_pos h2, if_neg (by omega), if_pos (by omega)]
        · rw [if_neg h2, if_pos (by omega), List.getElem?_drop]
          congr 1
          omega
    · rw [if_neg hj, if_neg (by omega), if_neg (by omega), List.getElem?_eq_none (by omega)]

/-- slices.Insert of one element. -/
theorem insert_any (v : Value) (n i : Nat) (cells : List Value) (a : Addr) (c : Nat) (news : List Value) (w : World) (hown : w.ownsRow 0 34 3 v n cells) (hn : n ≤ 1000000) (hi : i ≤ n) (hl : news.length = 3)
    (h1c : ∀ u ∈ cells, u.oneCell' = true) (h1 : ∀ u ∈ news, u.oneCell' = true) (hc : ∀ (j : Nat) u, news[j]? = some u → w.cell? (a.add j) = some u) (hab : ∀ b, v.ownBlock = some b → a.block ≠ b) :
    Calls Tryz.prog 35 #[v, .int .i64 i, .slice (some a) 1 c] w fun e w' => ∃ v', e = .returned v' ∧ w'.ownsRow 0 34 3 v' (n + 1) (cells.take (i * 3) ++ news ++ cells.drop (i * 3)) ∧ Grew w w' v v' := by
  have hcl := hown.1
  by_cases hin : i = n
  · subst hin
    rw [List.take_of_length_le (by omega), List.drop_of_length_le (by omega), List.append_nil]
    exact insert_end v i cells a c news w hown hn (by omega) h1 hc
  · rcases hown.2 with ⟨_, h0⟩ | ⟨b, cap, cur, rfl, hbg, hg, hnc, hcm, hcs, htake⟩
    · omega
    · have hbA := hab b rfl
      have hcur : ∀ j, j < n * 3 → cur.toList[j]? = cells[j]? := fun j hj => by
        rw [← htake, List.getElem?_take, if_pos hj]
      have hpl := owns_plain hown (b := b) rfl
      have hlt0 : 0 < news.length := by omega
      have hA0 : w.cell? a = some news[0] := by
        have := hc 0 news[0] (List.getElem?_eq_getElem hlt0)
        simpa [Addr.add] using this
      obtain ⟨tA, kA, hsa, hkA⟩ := shape_of_cell hA0
      by_cases hroom : n + 1 ≤ cap
      · have hsb : w.shape? b = some (34, cur.size) := by unfold World.shape?; rw [hg]
        have hspare : ∀ j, j < (n + 1) * 3 → (w.cell? ⟨b, j, none⟩).isSome = true := fun j hj => by
          unfold World.cell?
          rw [hg]
          have : j < cur.size := by rw [hcs]; omega
          simp [this]
        have hfz : ∀ j, w.frozen? ⟨b, j, none⟩ = false := fun j => by
          unfold World.frozen?
          simp [hg]
        refine (insert_shift b n cap i a c cells news w (by omega) hroom (by unfold maxLen at hcm; omega) hbA hcl hl (fun j u hu => (hpl j u hu).1) hspare hfz hc h1c h1 tA 34 kA cur.size hsa hsb hkA).mono fun e w' ⟨he, hw⟩ => ?_
        subst hw
        refine ⟨_, he, ?_, grew_set⟩
        have hd : (cells.drop (i * 3)).length = (n - i) * 3 := by rw [List.length_drop, hcl]; omega
        have r1 := setCells_row b (cells.drop (i * 3)) ((i + 1) * 3) w.drew cur 34 (0, 0) hg (by rw [hd, hcs]; omega)
        have p1 : (putVs cur.toList ((i + 1) * 3) (cells.drop (i * 3))).length = cur.size := by rw [putVs_length (by rw [hd, Array.length_toList, hcs]; omega), Array.length_toList]
        have r2 := setCells_row b news (i * 3) _ _ 34 (0, 0) r1 (by rw [List.size_toArray, p1, hl, hcs]; omega)
        have hic := (ins_cells (cur := cur.toList) (cells := cells) (news := news) (n := n) (i := i) (s := 0) hi hcl hl (by rw [Array.length_toList, hcs]; omega) (fun j hj => hcur j (by omega))).1
        refine ⟨by simp only [List.length_append, List.length_take, hd, hcl, hl]; omega, .inr ⟨b, cap, _, rfl, Nat.zero_le _, r2, hroom, hcm, ?_, ?_⟩⟩
        · simp only [List.size_toArray]
          rw [putVs_length (by rw [p1, hl, hcs]; omega), p1, hcs]
        · exact hic
      · have hbw : b < w.heap.size := (Array.getElem?_eq_some_iff.1 hg).1
        have haw : a.block < w.heap.size := by
          rcases Nat.lt_or_ge a.block w.heap.size with h | h
          · exact h
          · simp [World.cell?, Array.getElem?_eq_none h] at hA0
        refine (insert_grow b n cap i a c cells news w (by omega) hnc (by omega) hn hbw haw hcl hl (fun j u hu => (hpl j u hu).1) hc h1c h1).mono fun e w' ⟨ROW, hR1, hR2, he, hw⟩ => ?_
        subst hw
        have hGn : n + 1 ≤ grownCap w (n + 1) cap 34 := grownCap_ge w _ _ _
        have hGm : grownCap w (n + 1) cap 34 ≤ maxLen := grownCap_le_maxLen w (n + 1) cap 34 (by unfold maxLen; omega)
        generalize grownCap w (n + 1) cap 34 = G at hR1 he hGn hGm
        have hd : (cells.drop (i * 3)).length = (n - i) * 3 := by rw [List.length_drop, hcl]; omega
        have r0 : (w.alloc (.cells ROW 34)).drew.heap[w.heap.size]? = some (.cells ROW 34 (0, 0)) := heap_alloc_new w _
        have r1 := setCells_row w.heap.size news (i * 3) _ ROW 34 (0, 0) r0 (by rw [hl, hR1]; omega)
        have p1 : (putVs ROW.toList (i * 3) news).length = ROW.size := by rw [putVs_length (by rw [hl, Array.length_toList, hR1]; omega), Array.length_toList]
        have r2 := setCells_row w.heap.size (cells.drop (i * 3)) ((i + 1) * 3) ((w.alloc (.cells ROW 34)).drew.setCells w.heap.size (i * 3) news).drew _ 34 (0, 0) r1 (by rw [List.size_toArray, p1, hd, hR1]; omega)
        have hic := (ins_cells (cur := ROW.toList) (cells := cells) (news := news) (n := n) (i := i) (s := 0) hi hcl hl (by rw [Array.length_toList, hR1]; omega) (fun j hj => by rw [Array.getElem?_toList]; exact hR2 j hj)).2
        obtain ⟨a1, a2, a3, a4, a5⟩ := setCells_same w.heap.size news (i * 3) (w.alloc (.cells ROW 34)).drew
        obtain ⟨b1, b2, b3, b4, b5⟩ := setCells_same w.heap.size (cells.drop (i * 3)) ((i + 1) * 3) ((w.alloc (.cells ROW 34)).drew.setCells w.heap.size (i * 3) news).drew
        have hsz1 : (w.alloc (.cells ROW 34)).drew.heap.size = w.heap.size + 1 := by
          show (w.heap.push _).size = _
          simp
        refine ⟨_, he, ⟨by simp only [List.length_append, List.length_take, hd, hcl, hl]; omega, .inr ⟨w.heap.size, G, _, rfl, Nat.zero_le _, r2, hGn, hGm, ?_, hic⟩⟩, ?_⟩
        · simp only [List.size_toArray]
          rw [putVs_length (by rw [p1, hd, hR1]; omega), p1, hR1]
        · refine ⟨b1.trans a1, b2.trans a2, b3.trans a3, ?_, .inl ⟨rfl, ?_, fun q hq => ?_⟩⟩
          · rw [b4]
            show w.heap.size ≤ ((w.alloc (.cells ROW 34)).drew.setCells w.heap.size (i * 3) news).heap.size
            rw [a4, hsz1]
            omega
          · rw [b4]
            show w.heap.size < ((w.alloc (.cells ROW 34)).drew.setCells w.heap.size (i * 3) news).heap.size
            rw [a4, hsz1]
            omega
          · rw [b5 q (by omega)]
            show ((w.alloc (.cells ROW 34)).drew.setCells w.heap.size (i * 3) news).heap[q]? = _
            rw [a5 q (by omega)]
            exact alloc_heap_lt _ q hq

end Go.Abs.U2Z
