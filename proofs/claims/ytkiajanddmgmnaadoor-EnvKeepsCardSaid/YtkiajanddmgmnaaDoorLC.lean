/- slices.Clone at structs, slices.Insert at the end: walks. -/
import Derived.Test.YtkiajanddmgmnaaDoorLD
import Derived.Test.YtkiajanddmgmnaaDoorA46
import Derived.Shelf.SlicesE.Clone
import Derived.Shelf.Spec.SlicesInsert
set_option linter.unusedSimpArgs false
set_option linter.unusedVariables false
namespace Go.Abs.U29
open Go.RowKit Go.Proofs Go.Lib

theorem info74 : (Tryd.prog.info? 74).map (fun i => (i.zero, i.size, i.bytes)) = some (some (Value.agg #[.int .i64 0, .int .i64 0, .slice none 0 0]), 3, 40) := by kernel_rfl

set_option maxHeartbeats 2000000 in
set_option maxRecDepth 100000 in
theorem clone_env (a : Addr) (n c : Nat) (news : List Value) (w : World) (hl : news.length = n * 3) (hn : n ≤ maxLen) (hbig : n * 40 ≤ 140737488355328)
    (hc : ∀ j u, news[j]? = some u → w.cell? (a.add j) = some u) (h1 : ∀ u ∈ news, u.oneCell' = true) :
    Calls Tryd.prog 80 #[.slice (some a) n c] w fun e w' => ∃ v', e = .returned v' ∧ w'.ownsRow w.heap.size 74 3 v' n news ∧ v' ≠ .slice none 0 0 ∧ Below w.heap.size w w' := by
  have mixed : Tryd.prog.follows .mixedOrders = true := by kernel_rfl
  have t4 := Tryd.underlying4; have a4 := Tryd.isAgg4; have z4 := Tryd.sizeOf4; have v4 := Tryd.zeroValue4
  have tS := Tryd.underlying32; have aS := Tryd.isAgg32; have zS := Tryd.sizeOf32; have vS := Tryd.zeroValue32
  have zE := Tryd.sizeOf74
  obtain ⟨i0, hi, hz0, hz1, hz2⟩ := info_parts info74
  have qS : ∀ (w : World) (a : Option Addr) (n c n' c' : Nat), (binOp .eql 32 (.slice a n c) (.slice none n' c')).run Tryd.prog w = .ok (.bool a.isNone) w := fun w a n c n' c' => Lib.run_eql_slice_nil w _ _ a n c n' c' tS
  have uS : ∀ w, Sem.run Tryd.prog (underlying 32) w = .ok (TypeDesc.slice 74) w := run_underlying tS
  have A : Aside (∀ j u, news[j]? = some u → w.cell? (a.add j) = some u) := hc
  clear hc
  go_enter Tryd.func80, Tryd.ntmps80
  go_wp2_with (at_builtin; refine wpList_append_own _ rfl _ _ 32 rfl w.heap.size 74 i0 _ 3 40 tS hi hz0 hz1 hz2 rfl (by decide) _ _ _ rfl (World.ownsRow_made w #[] 0 (Nat.le_refl _) (Nat.zero_le _) (by simp)) a n c news rfl ?qc1 ?qc2 ?qc3 ?qc4 ?qc5 ?qc6 ?_)
  case qc1 => exact hl
  case qc2 =>
    intro j u hj
    exact Lib.cell?_alloc_some _ (A.out j u hj)
  case qc3 => exact h1
  case qc4 => rw [Nat.zero_add]; exact hn
  case qc5 => rw [Nat.zero_add]; exact hbig
  case qc6 => simp
  intro v' w1 hown hgrow hnil
  go_wp2
  go_ret
  refine ⟨v', rfl, by simpa using hown, ?_, ?_⟩
  · first | exact hnil | (intro e; exact absurd (hnil.1 e).1 (by simp))
  · exact ((Below.refl _ w).alloc (Nat.le_refl _) _).grown hgrow (by simp) (by intro k hk; simp [Value.ownBlock] at hk; omega)

set_option maxHeartbeats 1000000 in
theorem clone_env_nil (n c : Nat) (w : World) : Calls Tryd.prog 80 #[.slice none n c] w fun e w' => e = .returned (.slice none 0 0) ∧ w' = w := by
  have mixed : Tryd.prog.follows .mixedOrders = true := by kernel_rfl
  have t4 := Tryd.underlying4; have a4 := Tryd.isAgg4; have z4 := Tryd.sizeOf4; have v4 := Tryd.zeroValue4
  have tS := Tryd.underlying32; have aS := Tryd.isAgg32; have zS := Tryd.sizeOf32; have vS := Tryd.zeroValue32
  have qS : ∀ (w : World) (a : Option Addr) (n c n' c' : Nat), (binOp .eql 32 (.slice a n c) (.slice none n' c')).run Tryd.prog w = .ok (.bool a.isNone) w := fun w a n c n' c' => Lib.run_eql_slice_nil w _ _ a n c n' c' tS
  go_enter Tryd.func80, Tryd.ntmps80
  go_wp2
  go_ret
  exact ⟨rfl, rfl⟩

set_option maxHeartbeats 2000000 in
set_option maxRecDepth 100000 in
theorem clone_var (a : Addr) (n c : Nat) (news : List Value) (w : World) (hl : news.length = n * 3) (hn : n ≤ maxLen) (hbig : n * 48 ≤ 140737488355328)
    (hc : ∀ j u, news[j]? = some u → w.cell? (a.add j) = some u) (h1 : ∀ u ∈ news, u.oneCell' = true) :
    Calls Tryd.prog 90 #[.slice (some a) n c] w fun e w' => ∃ v', e = .returned v' ∧ w'.ownsRow w.heap.size 76 3 v' n news ∧ v' ≠ .slice none 0 0 ∧ Below w.heap.size w w' := by
  have mixed : Tryd.prog.follows .mixedOrders = true := by kernel_rfl
  have t4 := Tryd.underlying4; have a4 := Tryd.isAgg4; have z4 := Tryd.sizeOf4; have v4 := Tryd.zeroValue4
  have tS := Tryd.underlying72; have aS := Tryd.isAgg72; have zS := Tryd.sizeOf72; have vS := Tryd.zeroValue72
  have zE := Tryd.sizeOf76
  obtain ⟨i0, hi, hz0, hz1, hz2⟩ := info_parts info76
  have qS : ∀ (w : World) (a : Option Addr) (n c n' c' : Nat), (binOp .eql 72 (.slice a n c) (.slice none n' c')).run Tryd.prog w = .ok (.bool a.isNone) w := fun w a n c n' c' => Lib.run_eql_slice_nil w _ _ a n c n' c' tS
  have uS : ∀ w, Sem.run Tryd.prog (underlying 72) w = .ok (TypeDesc.slice 76) w := run_underlying tS
  have A : Aside (∀ j u, news[j]? = some u → w.cell? (a.add j) = some u) := hc
  clear hc
  go_enter Tryd.func90, Tryd.ntmps90
  go_wp2_with (at_builtin; refine wpList_append_own _ rfl _ _ 72 rfl w.heap.size 76 i0 _ 3 48 tS hi hz0 hz1 hz2 rfl (by decide) _ _ _ rfl (World.ownsRow_made w #[] 0 (Nat.le_refl _) (Nat.zero_le _) (by simp)) a n c news rfl ?qc1 ?qc2 ?qc3 ?qc4 ?qc5 ?qc6 ?_)
  case qc1 => exact hl
  case qc2 =>
    intro j u hj
    exact Lib.cell?_alloc_some _ (A.out j u hj)
  case qc3 => exact h1
  case qc4 => rw [Nat.zero_add]; exact hn
  case qc5 => rw [Nat.zero_add]; exact hbig
  case qc6 => simp
  intro v' w1 hown hgrow hnil
  go_wp2
  go_ret
  refine ⟨v', rfl, by simpa using hown, ?_, ?_⟩
  · first | exact hnil | (intro e; exact absurd (hnil.1 e).1 (by simp))
  · exact ((Below.refl _ w).alloc (Nat.le_refl _) _).grown hgrow (by simp) (by intro k hk; simp [Value.ownBlock] at hk; omega)

set_option maxHeartbeats 1000000 in
theorem clone_var_nil (n c : Nat) (w : World) : Calls Tryd.prog 90 #[.slice none n c] w fun e w' => e = .returned (.slice none 0 0) ∧ w' = w := by
  have mixed : Tryd.prog.follows .mixedOrders = true := by kernel_rfl
  have t4 := Tryd.underlying4; have a4 := Tryd.isAgg4; have z4 := Tryd.sizeOf4; have v4 := Tryd.zeroValue4
  have tS := Tryd.underlying72; have aS := Tryd.isAgg72; have zS := Tryd.sizeOf72; have vS := Tryd.zeroValue72
  have qS : ∀ (w : World) (a : Option Addr) (n c n' c' : Nat), (binOp .eql 72 (.slice a n c) (.slice none n' c')).run Tryd.prog w = .ok (.bool a.isNone) w := fun w a n c n' c' => Lib.run_eql_slice_nil w _ _ a n c n' c' tS
  go_enter Tryd.func90, Tryd.ntmps90
  go_wp2
  go_ret
  exact ⟨rfl, rfl⟩

set_option maxHeartbeats 4000000 in
set_option maxRecDepth 100000 in
/-- slices.Insert at the end. -/
theorem insert_end (v : Value) (n : Nat) (cells : List Value) (a : Addr) (c : Nat) (news : List Value) (w : World) (hown : w.ownsRow 0 74 3 v n cells) (hn : n ≤ 1000000) (hl : news.length = 1 * 3)
    (h1 : ∀ u ∈ news, u.oneCell' = true) (hc : ∀ (j : Nat) u, news[j]? = some u → w.cell? (a.add j) = some u) :
    Calls Tryd.prog 70 #[v, .int .i64 n, .slice (some a) 1 c] w fun e w' => ∃ v', e = .returned v' ∧ w'.ownsRow 0 74 3 v' (n + 1) (cells ++ news) ∧ Grew w w' v v' := by
  have mixed : Tryd.prog.follows .mixedOrders = true := by kernel_rfl
  have t3 := Tryd.underlying3; have a3 := Tryd.isAgg3; have z3 := Tryd.sizeOf3; have v3 := Tryd.zeroValue3; have t4 := Tryd.underlying4; have a4 := Tryd.isAgg4; have z4 := Tryd.sizeOf4; have v4 := Tryd.zeroValue4
  have tS := Tryd.underlying32; have aS := Tryd.isAgg32; have zS := Tryd.sizeOf32; have vS := Tryd.zeroValue32
  have zE := Tryd.sizeOf74
  obtain ⟨i0, hi, hz0, hz1, hz2⟩ := info_parts info74
  obtain ⟨v', w', hrun0, hown', hG, _⟩ : ∃ v' w', (∀ ty, (Builtin.append_ #[32, 32] ty #[v, .slice (some a) 1 c]).run Tryd.prog w = .ok v' w') ∧ w'.ownsRow 0 74 i0.size v' (n + 1) (cells ++ news) ∧ Grew w w' v v' ∧ True := by
    have hh := fun ty => append_own (P := Tryd.prog) (w := w) 32 ty 74 i0 _ tS hi hz0 (by rw [hz1]; rfl) v n cells (by rw [hz1]; exact hown) (.slice (some a) 1 c) 1 news ⟨by rw [hz1]; exact hl, h1, .inr ⟨a, c, rfl, hc⟩⟩ (by unfold maxLen; omega) (by rw [hz2]; omega)
    obtain ⟨v', w', hr, ho, hg, _⟩ := hh 32
    refine ⟨v', w', fun ty => ?_, ho, hg, trivial⟩
    exact hr
  rw [hz1] at hown'
  have Z : Aside (w'.ownsRow 0 74 3 v' (n + 1) (cells ++ news) ∧ Grew w w' v v') := ⟨hown', hG⟩
  have hrun : ∀ ty, (Builtin.append_ #[32, 32] ty #[v, .slice (some a) 1 c]).run Tryd.prog w = .ok v' w' := hrun0
  clear hown' hG hc h1 hrun0
  rcases hown.2 with ⟨rfl, h0⟩ | ⟨g, cap, cur, rfl, hbg, hg, hnc, hcm, hcs, htake⟩
  · subst h0
    clear hown
    go_enter Tryd.func70, Tryd.ntmps70
    go_wp2_with (at_builtin; refine Lib.wpList_append_run _ rfl _ _ _ _ rfl _ _ rfl rfl _ _ (hrun _) ?_)
    all_goals go_ret
    all_goals first | exact ⟨v', rfl, Z.out⟩ | (subst_vars; exact ⟨v', rfl, Z.out⟩)
  · clear hown hg hbg hcs htake
    have hc63 : cap ≤ 9223372036854775807 := by unfold maxLen at hcm; omega
    clear hcm
    go_enter Tryd.func70, Tryd.ntmps70
    go_wp2_with (at_builtin; refine Lib.wpList_append_run _ rfl _ _ _ _ rfl _ _ rfl rfl _ _ (hrun _) ?_)
    all_goals go_ret
    all_goals first | exact ⟨v', rfl, Z.out⟩ | (subst_vars; exact ⟨v', rfl, Z.out⟩)

end Go.Abs.U29
