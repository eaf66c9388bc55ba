/- slices.Delete of one element of several cells: a walk. -/
import Derived.Test.YtkiajanddmgmnaaGreatDoorT1
import Derived.Shelf.RegionOpenPlain
import Derived.WalkKit
import Derived.Deep.LoopGhost
import Derived.Deep.RegionLaw
import Derived.Lib.Walk
import Derived.Sort.WalkB12
import Derived.Lib.SliceRun
import Derived.Lib.SlicesDelete
import Derived.OwnWalk
import Derived.Deep.MidRow
set_option linter.unusedSimpArgs false
set_option linter.unusedVariables false
namespace Go.Abs.U2Z
open Go.RowKit Go.Proofs Go.Lib Go.Sort

theorem info37 : (Tryz.prog.info? 37).map (fun i => (i.zero, i.size, i.bytes)) = some (some (Value.agg #[.int .i64 0, .string ⟨#[]⟩, .slice none 0 0]), 3, 48) := by kernel_rfl

/-- clear of one element of several cells. -/
theorem run_clear_one {P : Program} (w : World) (t e ty : TypeId) (z : Value) (ht : P.underlying t = some (.slice e)) (hv : ∀ w, (zeroValue e).run P w = .ok z w) (h1 : ∀ u ∈ z.cells.toList, u.oneCell' = true) (b o c : Nat) (h0 : 0 < z.cells.size)
    (hc : ∀ j, j < z.cells.size → (w.cell? ⟨b, o + j, none⟩).isSome = true) (hf : ∀ j, j < z.cells.size → w.frozen? ⟨b, o + j, none⟩ = false) :
    (Builtin.clear_ #[t] ty #[.slice (some ⟨b, o, none⟩) 1 c]).run P w = .ok (.tuple #[]) (w.setCells b o z.cells.toList) := by
  have hzc : (Builtin.zeroCells z.cells 1).toList = z.cells.toList := by
    unfold Builtin.zeroCells
    apply List.ext_getElem
    · simp
    · intro i h1 h2
      simp at h2
      simp [Nat.mod_eq_of_lt h2]
      exact getElem!_pos z.cells i h2
  have hst := run_storeCells_cells (P := P) b o z.cells.toList 0 w (by simpa using hc) (by simpa using hf) h1
  simp only [Nat.add_zero] at hst
  simp [Builtin.clear_, run_underlying ht, hv, hzc, hst]


set_option maxHeartbeats 4000000 in
set_option maxRecDepth 1000000 in
/-- slices.Delete of the element i of a row of variables. -/
theorem delete_run (b cap n i j : Nat) (cells : List Value) (w : World) (hlen : cells.length = n * 3) (hH : ∀ k u, cells[k]? = some u → w.cell? ⟨b, k, none⟩ = some u ∧ w.frozen? ⟨b, k, none⟩ = false)
    (h1 : ∀ u ∈ cells, u.oneCell' = true) (hcap : n ≤ cap) (hm : cap ≤ 9223372036854775807) (hj : j = i + 1) (hi : i < n) :
    Calls Tryz.prog 38 #[.slice (some ⟨b, 0, none⟩) n cap, .int .i64 i, .int .i64 j] w fun e w' => e = .returned (.slice (some ⟨b, 0, none⟩) (n - 1) cap) ∧
      ∃ q, w' = ((Sort.ahead w q).setCells b (i * 3) (cells.drop (j * 3))).setCells b ((n - 1) * 3) [.int .i64 0, .string ⟨#[]⟩, .slice none 0 0] := by
  have mixed : Tryz.prog.follows .mixedOrders = true := by kernel_rfl
  have t3x := Tryz.underlying3; have t3 := Tryz.underlying3; have a3 := Tryz.isAgg3; have z3 := Tryz.sizeOf3; have v3 := Tryz.zeroValue3; have t4 := Tryz.underlying4; have a4 := Tryz.isAgg4; have z4 := Tryz.sizeOf4; have v4 := Tryz.zeroValue4
  have t32 := Tryz.underlying32; have a32 := Tryz.isAgg32; have z32 := Tryz.sizeOf32; have v32 := Tryz.zeroValue32
  have t37 := Tryz.underlying37; have a37 := Tryz.isAgg37; have z37 := Tryz.sizeOf37; have v37 := Tryz.zeroValue37
  obtain ⟨i0, hi0, hz0, hz1, hz2⟩ := info_parts info37
  have hlt : i < j := by omega
  have hjn : j ≤ n := by omega
  obtain ⟨news, hnews⟩ : ∃ news, news = cells.drop (j * 3) := ⟨_, rfl⟩
  have hlen' : news.length = (n - j) * 3 := by rw [hnews, List.length_drop, hlen, Nat.sub_mul]
  obtain ⟨A, hA, hsrc⟩ : ∃ A : Addr, (if cap = j then some (⟨b, 0, none⟩ : Addr) else some ⟨b, j * 3, none⟩) = some A ∧ Hid (∀ t u, news[t]? = some u → w.drew.cell? (A.add t) = some u) := by
    by_cases h : cap = j
    · refine ⟨⟨b, 0, none⟩, by simp [h], fun t u hu => ?_⟩
      have h0 : news.length = 0 := by rw [hlen', show n - j = 0 by omega]
      rw [List.length_eq_zero_iff.1 h0] at hu
      simp at hu
    · refine ⟨⟨b, j * 3, none⟩, by simp [h], fun t u hu => ?_⟩
      rw [hnews, List.getElem?_drop] at hu
      rw [Addr.add_lit]
      exact (hH _ _ hu).1
  have s1 : Hid (news.length = (n - j) * 3) := hlen'
  have s2 : Hid (∀ u ∈ news, u.oneCell' = true) := by
    intro u hu
    rw [hnews] at hu
    exact h1 u (List.mem_of_mem_drop hu)
  have hat : ∀ k, k < n * 3 → (w.cell? ⟨b, k, none⟩).isSome = true ∧ w.frozen? ⟨b, k, none⟩ = false := by
    intro k hk
    have := hH k _ (List.getElem?_eq_getElem (by rw [hlen]; exact hk))
    rw [this.1]
    exact ⟨rfl, this.2⟩
  have s3 : Hid (∀ t, t < news.length → (w.drew.cell? ⟨b, 0 + i * 3 + t, none⟩).isSome = true ∧ w.drew.frozen? ⟨b, 0 + i * 3 + t, none⟩ = false) := by
    intro t ht
    rw [hlen'] at ht
    rw [Nat.zero_add]
    exact hat _ (by omega)
  obtain ⟨W1, hW1⟩ : ∃ W1, W1 = w.drew.setCells b (0 + i * 3) news := ⟨_, rfl⟩
  have hkeep : ∀ k, k < n * 3 → (W1.cell? ⟨b, k, none⟩).isSome = true ∧ W1.frozen? ⟨b, k, none⟩ = false := by
    intro k hk
    rw [hW1]
    exact ⟨World.isSome_setCells b _ _ _ _ (hat k hk).1, by rw [World.frozen?_setCells]; exact (hat k hk).2⟩
  have hnn : i + (n - j) = n - 1 := by omega
  have hcl : ∀ ty, (Builtin.clear_ #[32] ty #[.slice (some ⟨b, (i + (n - j)) * 3, none⟩) (n - (i + (n - j))) (cap - (i + (n - j)))]).run Tryz.prog W1 = .ok (.tuple #[]) (W1.setCells b ((n - 1) * 3) [.int .i64 0, .string ⟨#[]⟩, .slice none 0 0]) := by
    intro ty
    rw [hnn, show n - (n - 1) = 1 by omega]
    have hk3 : ∀ k, k < 3 → (n - 1) * 3 + k < n * 3 := fun k hk => by omega
    exact run_clear_one W1 32 37 ty _ t32 v37 (by decide) b _ _ (by decide) (fun k hk => (hkeep _ (hk3 k hk)).1) (fun k hk => (hkeep _ (hk3 k hk)).2)
  have hW : Hid (W1 = w.drew.setCells b (0 + i * 3) news) := hW1
  have hic : i ≤ cap := by omega
  have hjc : j ≤ cap := by omega
  have X : Hid (W1 = (Sort.ahead w 1).setCells b (i * 3) (cells.drop (j * 3))) := by
    rw [hW1, hnews, Nat.zero_add]
    rfl
  have Y : Hid (i + (n - j) = n - 1) := hnn
  clear hW1 hH hnews hlen hlen' hat hkeep hnn hj
  go_enter Tryz.func38, Tryz.ntmps38
  go_wp2_with fail
  go_region_law_o (refine step_append_room rfl (.tmp 22) (.tmp 25) 32 rfl 37 i0 3 t32 hi0 hz1 b 0 i cap (by simp [Act.eval, Act.put]) A (n - j) (cap - j) news (by simp [Act.eval, Act.put]) s1.out hsrc.out s2.out (by omega) s3.out ?_; rw [← hW.out])
  go_wp2
  go_ret
  refine ⟨by rw [Y.out]; rfl, 1, ?_⟩
  rw [← X.out]

end Go.Abs.U2Z
