/- slices.Clone at structs, slices.Insert at the end: walks. -/
import Derived.Test.YtkiajanddmgmnaaGreatDoorLD
import Derived.Test.YtkiajanddmgmnaaGreatDoorA46
import Derived.Shelf.SlicesE.Clone
import Derived.Shelf.Spec.SlicesInsert
set_option linter.unusedSimpArgs false
set_option linter.unusedVariables false
namespace Go.Abs.U2Z
open Go.RowKit Go.Proofs Go.Lib

theorem info34 : (Tryz.prog.info? 34).map (fun i => (i.zero, i.size, i.bytes)) = some (some (Value.agg #[.int .i64 0, .int .i64 0, .slice none 0 0]), 3, 40) := by kernel_rfl

set_option maxHeartbeats 2000000 in
set_option maxRecDepth 100000 in
theorem clone_env (a : Addr) (n c : Nat) (news : List Value) (w : World) (hl : news.length = n * 3) (hn : n ≤ maxLen) (hbig : n * 40 ≤ 140737488355328)
    (hc : ∀ j u, news[j]? = some u → w.cell? (a.add j) = some u) (h1 : ∀ u ∈ news, u.oneCell' = true) :
    Calls Tryz.prog 59 #[.slice (some a) n c] w fun e w' => ∃ v', e = .returned v' ∧ w'.ownsRow w.heap.size 34 3 v' n news ∧ v' ≠ .slice none 0 0 ∧ Below w.heap.size w w' := by
  have mixed : Tryz.prog.follows .mixedOrders = true := by kernel_rfl
  have t4 := Tryz.underlying4; have a4 := Tryz.isAgg4; have z4 := Tryz.sizeOf4; have v4 := Tryz.zeroValue4
  have tS := Tryz.underlying22; have aS := Tryz.isAgg22; have zS := Tryz.sizeOf22; have vS := Tryz.zeroValue22
  have zE := Tryz.sizeOf34
  obtain ⟨i0, hi, hz0, hz1, hz2⟩ := info_parts info34
  have qS : ∀ (w : World) (a : Option Addr) (n c n' c' : Nat), (binOp .eql 22 (.slice a n c) (.slice none n' c')).run Tryz.prog w = .ok (.bool a.isNone) w := fun w a n c n' c' => Lib.run_eql_slice_nil w _ _ a n c n' c' tS
  have uS : ∀ w, Sem.run Tryz.prog (underlying 22) w = .ok (TypeDesc.slice 34) w := run_underlying tS
  have A : Aside (∀ j u, news[j]? = some u → w.cell? (a.add j) = some u) := hc
  clear hc
  go_enter Tryz.func59, Tryz.ntmps59
  go_wp2_with (at_builtin; refine wpList_append_own _ rfl _ _ 22 rfl w.heap.size 34 i0 _ 3 40 tS hi hz0 hz1 hz2 rfl (by decide) _ _ _ rfl (World.ownsRow_made w #[] 0 (Nat.le_refl _) (Nat.zero_le _) (by simp)) a n c news rfl ?qc1 ?qc2 ?qc3 ?qc4 ?qc5 ?qc6 ?_)
  case qc1 => exact hl
  case qc2 =>
    intro j u hj
    exact Lib.cell?_alloc_some _ (A.out j u hj)
  case qc3 => exact h1
  case qc4 => rw [Nat.zero_add]; exact hn
  case qc5 => rw [Nat.zero_add]; exact hbig
  case qc6 => simp
  intro v' w1 hown hgrow hnil
  go_wp2
  go_ret
  refine ⟨v', rfl, by simpa using hown, ?_, ?_⟩
  · first | exact hnil | (intro e; exact absurd (hnil.1 e).1 (by simp))
  · exact ((Below.refl _ w).alloc (Nat.le_refl _) _).grown hgrow (by simp) (by intro k hk; simp [Value.ownBlock] at hk; omega)

set_option maxHeartbeats 1000000 in
theorem clone_env_nil (n c : Nat) (w : World) : Calls Tryz.prog 59 #[.slice none n c] w fun e w' => e = .returned (.slice none 0 0) ∧ w' = w := by
  have mixed : Tryz.prog.follows .mixedOrders = true := by kernel_rfl
  have t4 := Tryz.underlying4; have a4 := Tryz.isAgg4; have z4 := Tryz.sizeOf4; have v4 := Tryz.zeroValue4
  have tS := Tryz.underlying22; have aS := Tryz.isAgg22; have zS := Tryz.sizeOf22; have vS := Tryz.zeroValue22
  have qS : ∀ (w : World) (a : Option Addr) (n c n' c' : Nat), (binOp .eql 22 (.slice a n c) (.slice none n' c')).run Tryz.prog w = .ok (.bool a.isNone) w := fun w a n c n' c' => Lib.run_eql_slice_nil w _ _ a n c n' c' tS
  go_enter Tryz.func59, Tryz.ntmps59
  go_wp2
  go_ret
  exact ⟨rfl, rfl⟩

set_option maxHeartbeats 2000000 in
set_option maxRecDepth 100000 in
theorem clone_var (a : Addr) (n c : Nat) (news : List Value) (w : World) (hl : news.length = n * 3) (hn : n ≤ maxLen) (hbig : n * 48 ≤ 140737488355328)
    (hc : ∀ j u, news[j]? = some u → w.cell? (a.add j) = some u) (h1 : ∀ u ∈ news, u.oneCell' = true) :
    Calls Tryz.prog 62 #[.slice (some a) n c] w fun e w' => ∃ v', e = .returned v' ∧ w'.ownsRow w.heap.size 37 3 v' n news ∧ v' ≠ .slice none 0 0 ∧ Below w.heap.size w w' := by
  have mixed : Tryz.prog.follows .mixedOrders = true := by kernel_rfl
  have t4 := Tryz.underlying4; have a4 := Tryz.isAgg4; have z4 := Tryz.sizeOf4; have v4 := Tryz.zeroValue4
  have tS := Tryz.underlying32; have aS := Tryz.isAgg32; have zS := Tryz.sizeOf32; have vS := Tryz.zeroValue32
  have zE := Tryz.sizeOf37
  obtain ⟨i0, hi, hz0, hz1, hz2⟩ := info_parts info37
  have qS : ∀ (w : World) (a : Option Addr) (n c n' c' : Nat), (binOp .eql 32 (.slice a n c) (.slice none n' c')).run Tryz.prog w = .ok (.bool a.isNone) w := fun w a n c n' c' => Lib.run_eql_slice_nil w _ _ a n c n' c' tS
  have uS : ∀ w, Sem.run Tryz.prog (underlying 32) w = .ok (TypeDesc.slice 37) w := run_underlying tS
  have A : Aside (∀ j u, news[j]? = some u → w.cell? (a.add j) = some u) := hc
  clear hc
  go_enter Tryz.func62, Tryz.ntmps62
  go_wp2_with (at_builtin; refine wpList_append_own _ rfl _ _ 32 rfl w.heap.size 37 i0 _ 3 48 tS hi hz0 hz1 hz2 rfl (by decide) _ _ _ rfl (World.ownsRow_made w #[] 0 (Nat.le_refl _) (Nat.zero_le _) (by simp)) a n c news rfl ?qc1 ?qc2 ?qc3 ?qc4 ?qc5 ?qc6 ?_)
  case qc1 => exact hl
  case qc2 =>
    intro j u hj
    exact Lib.cell?_alloc_some _ (A.out j u hj)
  case qc3 => exact h1
  case qc4 => rw [Nat.zero_add]; exact hn
  case qc5 => rw [Nat.zero_add]; exact hbig
  case qc6 => simp
  intro v' w1 hown hgrow hnil
  go_wp2
  go_ret
  refine ⟨v', rfl, by simpa using hown, ?_, ?_⟩
  · first | exact hnil | (intro e; exact absurd (hnil.1 e).1 (by simp))
  · exact ((Below.refl _ w).alloc (Nat.le_refl _) _).grown hgrow (by simp) (by intro k hk; simp [Value.ownBlock] at hk; omega)

set_option maxHeartbeats 1000000 in
theorem clone_var_nil (n c : Nat) (w : World) : Calls Tryz.prog 62 #[.slice none n c] w fun e w' => e = .returned (.slice none 0 0) ∧ w' = w := by
  have mixed : Tryz.prog.follows .mixedOrders = true := by kernel_rfl
  have t4 := Tryz.underlying4; have a4 := Tryz.isAgg4; have z4 := Tryz.sizeOf4; have v4 := Tryz.zeroValue4
  have tS := Tryz.underlying32; have aS := Tryz.isAgg32; have zS := Tryz.sizeOf32; have vS := Tryz.zeroValue32
  have qS : ∀ (w : World) (a : Option Addr) (n c n' c' : Nat), (binOp .eql 32 (.slice a n c) (.slice none n' c')).run Tryz.prog w = .ok (.bool a.isNone) w := fun w a n c n' c' => Lib.run_eql_slice_nil w _ _ a n c n' c' tS
  go_enter Tryz.func62, Tryz.ntmps62
  go_wp2
  go_ret
  exact ⟨rfl, rfl⟩

set_option maxHeartbeats 4000000 in
set_option maxRecDepth 100000 in
/-- slices.Insert at the end. -/
theorem insert_end (v : Value) (n : Nat) (cells : List Value) (a : Addr) (c : Nat) (news : List Value) (w : World) (hown : w.ownsRow 0 34 3 v n cells) (hn : n ≤ 1000000) (hl : news.length = 1 * 3)
    (h1 : ∀ u ∈ news, u.oneCell' = true) (hc : ∀ (j : Nat) u, news[j]? = some u → w.cell? (a.add j) = some u) :
    Calls Tryz.prog 35 #[v, .int .i64 n, .slice (some a) 1 c] w fun e w' => ∃ v', e = .returned v' ∧ w'.ownsRow 0 34 3 v' (n + 1) (cells ++ news) ∧ Grew w w' v v' := by
  have mixed : Tryz.prog.follows .mixedOrders = true := by kernel_rfl
  have t3 := Tryz.underlying3; have a3 := Tryz.isAgg3; have z3 := Tryz.sizeOf3; have v3 := Tryz.zeroValue3; have t4 := Tryz.underlying4; have a4 := Tryz.isAgg4; have z4 := Tryz.sizeOf4; have v4 := Tryz.zeroValue4
  have tS := Tryz.underlying22; have aS := Tryz.isAgg22; have zS := Tryz.sizeOf22; have vS := Tryz.zeroValue22
  have zE := Tryz.sizeOf34
  obtain ⟨i0, hi, hz0, hz1, hz2⟩ := info_parts info34
  obtain ⟨v', w', hrun0, hown', hG, _⟩ : ∃ v' w', (∀ ty, (Builtin.append_ #[22, 22] ty #[v, .slice (some a) 1 c]).run Tryz.prog w = .ok v' w') ∧ w'.ownsRow 0 34 i0.size v' (n + 1) (cells ++ news) ∧ Grew w w' v v' ∧ True := by
    have hh := fun ty => append_own (P := Tryz.prog) (w := w) 22 ty 34 i0 _ tS hi hz0 (by rw [hz1]; rfl) v n cells (by rw [hz1]; exact hown) (.slice (some a) 1 c) 1 news ⟨by rw [hz1]; exact hl, h1, .inr ⟨a, c, rfl, hc⟩⟩ (by unfold maxLen; omega) (by rw [hz2]; omega)
    obtain ⟨v', w', hr, ho, hg, _⟩ := hh 22
    refine ⟨v', w', fun ty => ?_, ho, hg, trivial⟩
    exact hr
  rw [hz1] at hown'
  have Z : Aside (w'.ownsRow 0 34 3 v' (n + 1) (cells ++ news) ∧ Grew w w' v v') := ⟨hown', hG⟩
  have hrun : ∀ ty, (Builtin.append_ #[22, 22] ty #[v, .slice (some a) 1 c]).run Tryz.prog w = .ok v' w' := hrun0
  clear hown' hG hc h1 hrun0
  rcases hown.2 with ⟨rfl, h0⟩ | ⟨g, cap, cur, rfl, hbg, hg, hnc, hcm, hcs, htake⟩
  · subst h0
    clear hown
    go_enter Tryz.func35, Tryz.ntmps35
    go_wp2_with (at_builtin; refine Lib.wpList_append_run _ rfl _ _ _ _ rfl _ _ rfl rfl _ _ (hrun _) ?_)
    all_goals go_ret
    all_goals first | exact ⟨v', rfl, Z.out⟩ | (subst_vars; exact ⟨v', rfl, Z.out⟩)
  · clear hown hg hbg hcs htake
    have hc63 : cap ≤ 9223372036854775807 := by unfold maxLen at hcm; omega
    clear hcm
    go_enter Tryz.func35, Tryz.ntmps35
    go_wp2_with (at_builtin; refine Lib.wpList_append_run _ rfl _ _ _ _ rfl _ _ rfl rfl _ _ (hrun _) ?_)
    all_goals go_ret
    all_goals first | exact ⟨v', rfl, Z.out⟩ | (subst_vars; exact ⟨v', rfl, Z.out⟩)

end Go.Abs.U2Z
