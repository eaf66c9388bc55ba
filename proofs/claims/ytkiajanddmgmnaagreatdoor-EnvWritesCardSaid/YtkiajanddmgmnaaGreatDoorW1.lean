/- The layer 29 laws: the functions walked. -/
import Derived.Test.YtkiajanddmgmnaaGreatDoorD1
set_option linter.unusedVariables false
set_option linter.unusedSimpArgs false
set_option maxRecDepth 8000
namespace Go.Abs.U2Z
open Go.RowKit Go.Proofs

set_option maxHeartbeats 4000000 in
theorem g_F9 {O : Orc} (hS : Sound env O) (hpf : O.pf = pfn) (l1 : List Str) (most2 : Int) (r3 : Bool) (h : F9 l1 most2 = some r3) : Good env 9 [.pv (.slice (List.map PV.str l1)), .pv (.int .i64 most2)] [] [.pv (.bool r3)] [] := by
  refine Good.start (fn := Tryz.f9) (N := 29) fn_9 rfl rfl (by simp) [] _ rfl rfl ?_
  rw [F9] at h
  refine AW.seq ?_
  refine AW.reg hS [(0, .pv (.slice (List.map PV.str l1))), (1, .pv (.int .i64 most2))] [] ?_ ?_
  · exact dk
  refine AW.seq ?_
  refine AW.reg hS [(0, .pv (.slice (List.map PV.str l1))), (1, .pv (.int .i64 most2)), (5, .pv (.int .i64 0))] [] ?_ ?_
  · exact dk
  refine AW.seq ?_
  refine AW.seq ?_
  refine AW.reg hS [(0, .pv (.slice (List.map PV.str l1))), (1, .pv (.int .i64 most2)), (5, .pv (.int .i64 0)), (8, .pv (.int .i64 (l1.length : Int))), (9, .pv (.int .i64 0))] [] ?_ ?_
  · exact dk
  refine AW.block ?_
  refine AW.weak (Weak.slots (L := [(0, .pv (.slice (List.map PV.str l1))), (1, .pv (.int .i64 most2)), (5, .pv (.int .i64 0)), (8, .pv (.int .i64 (l1.length : Int))), (9, .pv (.int .i64 0))]) ⟨rfl, rfl, rfl, rfl, rfl, trivial⟩) ?_
  refine AW.loopI (α := Nat × Int × Int) (fun (_, n4, i5) => ⟨sl [(0, .pv (.slice (List.map PV.str l1))), (1, .pv (.int .i64 most2)), (5, .pv (.int .i64 n4)), (8, .pv (.int .i64 (l1.length : Int))), (9, .pv (.int .i64 i5))], 29, []⟩) (fun x => iter (F9_b1 l1 most2) x.1 x.2 = some r3) (fun x => x.1) (BIG, (0, 0)) h ?_
  clear h
  intro ⟨n13, n4, i5⟩ h
  replace h := iter_some h; obtain ⟨m8, rfl, h⟩ := h
  rw [F9_b1] at h
  try dsimp only at h
  show AW _ _ _ _ ⟨sl [(0, .pv (.slice (List.map PV.str l1))), (1, .pv (.int .i64 most2)), (5, .pv (.int .i64 n4)), (8, .pv (.int .i64 (l1.length : Int))), (9, .pv (.int .i64 i5))], 29, []⟩
  refine AW.seq ?_
  refine AW.reg hS [(0, .pv (.slice (List.map PV.str l1))), (1, .pv (.int .i64 most2)), (5, .pv (.int .i64 n4)), (8, .pv (.int .i64 (l1.length : Int))), (9, .pv (.int .i64 i5)), (10, .pv (.bool (decide (i5 < (l1.length : Int)))))] [] ?_ ?_
  · exact dk
  refine AW.seq ?_
  refine AW.cond (b := decide (i5 < (l1.length : Int))) rfl (fun hb9 => ?_) (fun hb9 => ?_)
  · replace h := bif_t hb9 h
    refine AW.skip ?_
    refine AW.seq ?_
    refine AW.block ?_
    refine AW.seq ?_
    refine AW.reg hS [(0, .pv (.slice (List.map PV.str l1))), (1, .pv (.int .i64 most2)), (5, .pv (.int .i64 n4)), (6, .pv (.int .i64 i5)), (8, .pv (.int .i64 (l1.length : Int))), (9, .pv (.int .i64 i5))] [] ?_ ?_
    · exact dk
    replace h := obs h; obtain ⟨w10, q11, h⟩ := h
    have f12 := lidx_f q11
    refine AW.reg hS [(0, .pv (.slice (List.map PV.str l1))), (1, .pv (.int .i64 most2)), (5, .pv (.int .i64 (IntKind.wrap .i64 (n4 + (imin (w10.length : Int) 1048576))))), (8, .pv (.int .i64 (l1.length : Int))), (9, .pv (.int .i64 i5))] [] ?_ ?_
    · exact dk1 (an f12.1 f12.2.1)
    refine AW.reg hS [(0, .pv (.slice (List.map PV.str l1))), (1, .pv (.int .i64 most2)), (5, .pv (.int .i64 (IntKind.wrap .i64 (n4 + (imin (w10.length : Int) 1048576))))), (8, .pv (.int .i64 (l1.length : Int))), (9, .pv (.int .i64 (IntKind.wrap .i64 (i5 + 1))))] [] ?_ ?_
    · exact dk
    exact ⟨(m8, (IntKind.wrap .i64 (n4 + (imin (w10.length : Int) 1048576)), IntKind.wrap .i64 (i5 + 1))), h, (Weak.norm (m := 0) (Nat.le_of_ble_eq_true rfl) ⟨rfl, rfl, rfl, rfl, rfl, trivial⟩ rfl rfl rfl), Nat.lt_succ_self _⟩
  · replace h := bif_f hb9 h
    refine AW.exit ?_
    refine AW.seq ?_
    refine AW.reg hS [(4, .pv (.bool (decide (n4 ≤ most2) && decide ((l1.length : Int) ≤ 400))))] [] ?_ ?_
    · clear h
      exact dg
    refine AW.ret ?_
    cases h
    exact fin

set_option maxHeartbeats 4000000 in
theorem g_F4 {O : Orc} (hS : Sound env O) (hpf : O.pf = pfn) (c_F9 : C_F9 O) (l1 : List GEnv) (r2 : Bool) (h : F4 l1 = some r2) : Good env 4 [.pv (.slice (List.map GEnv.pv l1))] [] [.pv (.bool r2)] [] := by
  have pf_9 : O.pf 9 = true := by rw [hpf]; rfl
  refine Good.start (fn := Tryz.f4) (N := 59) fn_4 rfl rfl (by simp) [] _ rfl rfl ?_
  rw [F4] at h
  refine AW.seq ?_
  refine AW.reg hS [(0, .pv (.slice (List.map GEnv.pv l1)))] [] ?_ ?_
  · exact dk
  refine AW.seq ?_
  refine AW.seq ?_
  refine AW.reg hS [(0, .pv (.slice (List.map GEnv.pv l1))), (8, .pv (.bool (decide (70 < (l1.length : Int)))))] [] ?_ ?_
  · exact dk
  refine AW.cond (b := decide (70 < (l1.length : Int))) rfl (fun hb3 => ?_) (fun hb3 => ?_)
  · replace h := bif_t hb3 h
    refine AW.seq ?_
    refine AW.reg hS [(2, .pv (.bool false))] [] ?_ ?_
    · exact dk
    refine AW.ret ?_
    cases h
    exact fin
  · replace h := bif_f hb3 h
    refine AW.skip ?_
    refine AW.seq ?_
    refine AW.reg hS [(0, .pv (.slice (List.map GEnv.pv l1))), (3, .pv (.int .i64 0))] [] ?_ ?_
    · exact dk
    refine AW.seq ?_
    refine AW.seq ?_
    refine AW.reg hS [(0, .pv (.slice (List.map GEnv.pv l1))), (3, .pv (.int .i64 0)), (10, .pv (.int .i64 (l1.length : Int))), (11, .pv (.int .i64 0))] [] ?_ ?_
    · exact dk
    refine AW.block ?_
    refine AW.weak (Weak.slots (L := [(0, .pv (.slice (List.map GEnv.pv l1))), (3, .pv (.int .i64 0)), (10, .pv (.int .i64 (l1.length : Int))), (11, .pv (.int .i64 0))]) ⟨rfl, rfl, rfl, rfl, trivial⟩) ?_
    refine AW.loopI (α := Nat × Int × Int) (fun (_, n4, i5) => ⟨sl [(0, .pv (.slice (List.map GEnv.pv l1))), (3, .pv (.int .i64 n4)), (10, .pv (.int .i64 (l1.length : Int))), (11, .pv (.int .i64 i5))], 59, []⟩) (fun x => iter (F4_b2 l1) x.1 x.2 = some r2) (fun x => x.1) (BIG, (0, 0)) h ?_
    clear h
    intro ⟨n27, n4, i5⟩ h
    replace h := iter_some h; obtain ⟨m8, rfl, h⟩ := h
    rw [F4_b2] at h
    try dsimp only at h
    show AW _ _ _ _ ⟨sl [(0, .pv (.slice (List.map GEnv.pv l1))), (3, .pv (.int .i64 n4)), (10, .pv (.int .i64 (l1.length : Int))), (11, .pv (.int .i64 i5))], 59, []⟩
    refine AW.seq ?_
    refine AW.reg hS [(0, .pv (.slice (List.map GEnv.pv l1))), (3, .pv (.int .i64 n4)), (10, .pv (.int .i64 (l1.length : Int))), (11, .pv (.int .i64 i5)), (12, .pv (.bool (decide (i5 < (l1.length : Int)))))] [] ?_ ?_
    · exact dk
    refine AW.seq ?_
    refine AW.cond (b := decide (i5 < (l1.length : Int))) rfl (fun hb9 => ?_) (fun hb9 => ?_)
    · replace h := bif_t hb9 h
      refine AW.skip ?_
      refine AW.seq ?_
      refine AW.block ?_
      refine AW.seq ?_
      refine AW.reg hS [(0, .pv (.slice (List.map GEnv.pv l1))), (3, .pv (.int .i64 n4)), (4, .pv (.int .i64 i5)), (10, .pv (.int .i64 (l1.length : Int))), (11, .pv (.int .i64 i5))] [] ?_ ?_
      · exact dk
      refine AW.seq ?_
      replace h := obs h; obtain ⟨u10, q11, h⟩ := h
      have f12 := lidx_f q11
      refine AW.reg hS [(0, .pv (.slice (List.map GEnv.pv l1))), (3, .pv (.int .i64 (IntKind.wrap .i64 (n4 + (u10.vars_.length : Int))))), (4, .pv (.int .i64 i5)), (10, .pv (.int .i64 (l1.length : Int))), (11, .pv (.int .i64 i5))] [] ?_ ?_
      · exact dk1 (an f12.1 f12.2.1)
      refine AW.seq ?_
      refine AW.seq ?_
      refine AW.reg hS [(0, .pv (.slice (List.map GEnv.pv l1))), (3, .pv (.int .i64 (IntKind.wrap .i64 (n4 + (u10.vars_.length : Int))))), (4, .pv (.int .i64 i5)), (10, .pv (.int .i64 (l1.length : Int))), (11, .pv (.int .i64 i5)), (23, .pv (.bool (decide (200 < IntKind.wrap .i64 (n4 + (u10.vars_.length : Int))))))] [] ?_ ?_
      · exact dk
      refine AW.cond (b := decide (200 < IntKind.wrap .i64 (n4 + (u10.vars_.length : Int)))) rfl (fun hb13 => ?_) (fun hb13 => ?_)
      · replace h := bif_t hb13 h
        refine AW.seq ?_
        refine AW.reg hS [(2, .pv (.bool false))] [] ?_ ?_
        · exact dk
        refine AW.ret ?_
        cases h
        exact fin
      · replace h := bif_f hb13 h
        refine AW.skip ?_
        refine AW.seq ?_
        refine AW.reg hS [(0, .pv (.slice (List.map GEnv.pv l1))), (3, .pv (.int .i64 (IntKind.wrap .i64 (n4 + (u10.vars_.length : Int))))), (4, .pv (.int .i64 i5)), (10, .pv (.int .i64 (l1.length : Int))), (11, .pv (.int .i64 i5)), (29, .pv (.int .i64 (u10.vars_.length : Int))), (30, .pv (.int .i64 0))] [] ?_ ?_
        · exact dk1 (an f12.1 f12.2.1)
        refine AW.block ?_
        refine AW.weak (Weak.slots (L := [(0, .pv (.slice (List.map GEnv.pv l1))), (3, .pv (.int .i64 (IntKind.wrap .i64 (n4 + (u10.vars_.length : Int))))), (4, .pv (.int .i64 i5)), (10, .pv (.int .i64 (l1.length : Int))), (11, .pv (.int .i64 i5)), (29, .pv (.int .i64 (u10.vars_.length : Int))), (30, .pv (.int .i64 0))]) ⟨rfl, rfl, rfl, rfl, rfl, rfl, rfl, trivial⟩) ?_
        refine AW.loopI (α := Nat × Int) (fun (_, i14) => ⟨sl [(0, .pv (.slice (List.map GEnv.pv l1))), (3, .pv (.int .i64 (IntKind.wrap .i64 (n4 + (u10.vars_.length : Int))))), (4, .pv (.int .i64 i5)), (10, .pv (.int .i64 (l1.length : Int))), (11, .pv (.int .i64 i5)), (29, .pv (.int .i64 (u10.vars_.length : Int))), (30, .pv (.int .i64 i14))], 59, []⟩) (fun x => iter (F4_b3 u10 (iter (F4_b2 l1) m8) n4 i5) x.1 x.2 = some r2) (fun x => x.1) (BIG, 0) h ?_
        clear h
        intro ⟨n26, i14⟩ h
        replace h := iter_some h; obtain ⟨m17, rfl, h⟩ := h
        rw [F4_b3] at h
        try dsimp only at h
        show AW _ _ _ _ ⟨sl [(0, .pv (.slice (List.map GEnv.pv l1))), (3, .pv (.int .i64 (IntKind.wrap .i64 (n4 + (u10.vars_.length : Int))))), (4, .pv (.int .i64 i5)), (10, .pv (.int .i64 (l1.length : Int))), (11, .pv (.int .i64 i5)), (29, .pv (.int .i64 (u10.vars_.length : Int))), (30, .pv (.int .i64 i14))], 59, []⟩
        refine AW.seq ?_
        refine AW.reg hS [(0, .pv (.slice (List.map GEnv.pv l1))), (3, .pv (.int .i64 (IntKind.wrap .i64 (n4 + (u10.vars_.length : Int))))), (4, .pv (.int .i64 i5)), (10, .pv (.int .i64 (l1.length : Int))), (11, .pv (.int .i64 i5)), (29, .pv (.int .i64 (u10.vars_.length : Int))), (30, .pv (.int .i64 i14)), (31, .pv (.bool (decide (i14 < (u10.vars_.length : Int)))))] [] ?_ ?_
        · exact dk
        refine AW.seq ?_
        refine AW.cond (b := decide (i14 < (u10.vars_.length : Int))) rfl (fun hb18 => ?_) (fun hb18 => ?_)
        · replace h := bif_t hb18 h
          refine AW.skip ?_
          refine AW.seq ?_
          refine AW.block ?_
          refine AW.seq ?_
          refine AW.reg hS [(0, .pv (.slice (List.map GEnv.pv l1))), (3, .pv (.int .i64 (IntKind.wrap .i64 (n4 + (u10.vars_.length : Int))))), (4, .pv (.int .i64 i5)), (5, .pv (.int .i64 i14)), (10, .pv (.int .i64 (l1.length : Int))), (11, .pv (.int .i64 i5)), (29, .pv (.int .i64 (u10.vars_.length : Int))), (30, .pv (.int .i64 i14))] [] ?_ ?_
          · exact dk
          refine AW.seq ?_
          replace h := obs h; obtain ⟨u19, q20, h⟩ := h
          have f21 := lidx_f q20
          replace h := obs h; obtain ⟨r22, q23, h⟩ := h
          have f24 := c_F9 u19.values_ 70000 r22 q23
          try dsimp only at f24
          refine AW.reg hS [(0, .pv (.slice (List.map GEnv.pv l1))), (3, .pv (.int .i64 (IntKind.wrap .i64 (n4 + (u10.vars_.length : Int))))), (4, .pv (.int .i64 i5)), (10, .pv (.int .i64 (l1.length : Int))), (11, .pv (.int .i64 i5)), (29, .pv (.int .i64 (u10.vars_.length : Int))), (30, .pv (.int .i64 i14)), (56, .pv (.bool (!r22 || decide (1000 < (u19.name_.length : Int)))))] [] ?_ ?_
          · clear h
            exact dg1 (an f12.1 (an f12.2.1 (an f21.1 (an f21.2.1 (an pf_9 f24)))))
          refine AW.cond (b := (!r22 || decide (1000 < (u19.name_.length : Int)))) rfl (fun hb25 => ?_) (fun hb25 => ?_)
          · replace h := bif_t hb25 h
            refine AW.seq ?_
            refine AW.reg hS [(2, .pv (.bool false))] [] ?_ ?_
            · exact dk
            refine AW.ret ?_
            cases h
            exact fin
          · replace h := bif_f hb25 h
            refine AW.skip ?_
            refine AW.reg hS [(0, .pv (.slice (List.map GEnv.pv l1))), (3, .pv (.int .i64 (IntKind.wrap .i64 (n4 + (u10.vars_.length : Int))))), (4, .pv (.int .i64 i5)), (10, .pv (.int .i64 (l1.length : Int))), (11, .pv (.int .i64 i5)), (29, .pv (.int .i64 (u10.vars_.length : Int))), (30, .pv (.int .i64 (IntKind.wrap .i64 (i14 + 1))))] [] ?_ ?_
            · exact dk
            exact ⟨(m17, IntKind.wrap .i64 (i14 + 1)), h, (Weak.norm (m := 0) (Nat.le_of_ble_eq_true rfl) ⟨rfl, rfl, rfl, rfl, rfl, rfl, rfl, trivial⟩ rfl rfl rfl), Nat.lt_succ_self _⟩
        · replace h := bif_f hb18 h
          refine AW.exit ?_
          refine AW.reg hS [(0, .pv (.slice (List.map GEnv.pv l1))), (3, .pv (.int .i64 (IntKind.wrap .i64 (n4 + (u10.vars_.length : Int))))), (10, .pv (.int .i64 (l1.length : Int))), (11, .pv (.int .i64 (IntKind.wrap .i64 (i5 + 1))))] [] ?_ ?_
          · exact dk
          exact ⟨(m8, (IntKind.wrap .i64 (n4 + (u10.vars_.length : Int)), IntKind.wrap .i64 (i5 + 1))), h, (Weak.norm (m := 0) (Nat.le_of_ble_eq_true rfl) ⟨rfl, rfl, rfl, rfl, trivial⟩ rfl rfl rfl), Nat.lt_succ_self _⟩
    · replace h := bif_f hb9 h
      refine AW.exit ?_
      refine AW.seq ?_
      refine AW.reg hS [(2, .pv (.bool true))] [] ?_ ?_
      · exact dk
      refine AW.ret ?_
      cases h
      exact fin

set_option maxHeartbeats 4000000 in
theorem g_F5 {O : Orc} (hS : Sound env O) (hpf : O.pf = pfn) (c_F9 : C_F9 O) (o1 : GOp) (r2 : Bool) (h : F5 o1 = some r2) : Good env 5 [.pv (.agg [.int .i64 o1.kind_, .int .i64 o1.group_, .int .i64 o1.to_, .int .i64 o1.id_, .str o1.name_, .slice (List.map PV.str o1.values_), .int .i64 o1.offset_, .str o1.data_])] [] [.pv (.bool r2)] [] := by
  have pf_9 : O.pf 9 = true := by rw [hpf]; rfl
  refine Good.start (fn := Tryz.f5) (N := 18) fn_5 rfl rfl (by simp) [] _ rfl rfl ?_
  rw [F5] at h
  refine AW.seq ?_
  refine AW.reg hS [(1, .ref 0 0)] [.var [.pv (.int .i64 o1.kind_), .pv (.int .i64 o1.group_), .pv (.int .i64 o1.to_), .pv (.int .i64 o1.id_), .pv (.str o1.name_), .pv (.slice (List.map PV.str o1.values_)), .pv (.int .i64 o1.offset_), .pv (.str o1.data_)]] ?_ ?_
  · exact dk
  refine AW.seq ?_
  replace h := obs h; obtain ⟨r3, q4, h⟩ := h
  have f5 := fun hg => c_F9 o1.values_ 70000 r3 (guardO_t q4 hg)
  try dsimp only at f5
  refine AW.reg hS [(2, .pv (.bool ((decide ((o1.name_.length : Int) ≤ 1000) && r3) && decide ((o1.data_.length : Int) ≤ 70000))))] [.var [.pv (.int .i64 o1.kind_), .pv (.int .i64 o1.group_), .pv (.int .i64 o1.to_), .pv (.int .i64 o1.id_), .pv (.str o1.name_), .pv (.slice (List.map PV.str o1.values_)), .pv (.int .i64 o1.offset_), .pv (.str o1.data_)]] ?_ ?_
  · clear h
    exact dg1 (an pf_9 f5)
  refine AW.ret ?_
  cases h
  exact fin

set_option maxHeartbeats 4000000 in
theorem g_F10 {O : Orc} (hS : Sound env O) (hpf : O.pf = pfn) (values1 : List Str) (r2 : Str) (r3 : Int) (h : F10 values1 = some (r2, r3)) : Good env 10 [.pv (.slice (List.map PV.str values1))] [] [.pv (.str r2), .pv (.int .i64 r3)] [] := by
  refine Good.start (fn := Tryz.f10) (N := 49) fn_10 rfl rfl (by simp) [] _ rfl rfl ?_
  rw [F10] at h
  refine AW.seq ?_
  refine AW.reg hS [(0, .pv (.slice (List.map PV.str values1)))] [] ?_ ?_
  · exact dk
  refine AW.seq ?_
  refine AW.seq ?_
  refine AW.reg hS [(0, .pv (.slice (List.map PV.str values1))), (9, .pv (.bool (decide ((values1.length : Int) = 0))))] [] ?_ ?_
  · exact dk
  refine AW.cond (b := decide ((values1.length : Int) = 0)) rfl (fun hb4 => ?_) (fun hb4 => ?_)
  · replace h := bif_t hb4 h
    refine AW.seq ?_
    refine AW.reg hS [(2, .pv (.str [])), (3, .pv (.int .i64 1))] [] ?_ ?_
    · exact dk
    refine AW.ret ?_
    cases h
    exact fin
  · replace h := bif_f hb4 h
    refine AW.skip ?_
    refine AW.seq ?_
    refine AW.seq ?_
    refine AW.reg hS [(0, .pv (.slice (List.map PV.str values1))), (12, .pv (.bool (decide (256 < (values1.length : Int)))))] [] ?_ ?_
    · exact dk
    refine AW.cond (b := decide (256 < (values1.length : Int))) rfl (fun hb5 => ?_) (fun hb5 => ?_)
    · replace h := bif_t hb5 h
      refine AW.seq ?_
      refine AW.reg hS [(2, .pv (.str [])), (3, .pv (.int .i64 22))] [] ?_ ?_
      · exact dk
      refine AW.ret ?_
      cases h
      exact fin
    · replace h := bif_f hb5 h
      refine AW.skip ?_
      refine AW.seq ?_
      refine AW.reg hS [(0, .pv (.slice (List.map PV.str values1))), (4, .pv (.str []))] [] ?_ ?_
      · exact dk
      refine AW.seq ?_
      refine AW.seq ?_
      refine AW.reg hS [(0, .pv (.slice (List.map PV.str values1))), (4, .pv (.str [])), (5, .pv (.int .i64 0))] [] ?_ ?_
      · exact dk
      refine AW.block ?_
      refine AW.weak (Weak.slots (L := [(0, .pv (.slice (List.map PV.str values1))), (4, .pv (.str [])), (5, .pv (.int .i64 0))]) ⟨rfl, rfl, rfl, trivial⟩) ?_
      refine AW.loopI (α := Nat × Str × Int) (fun (_, s6, i7) => ⟨sl [(0, .pv (.slice (List.map PV.str values1))), (4, .pv (.str s6)), (5, .pv (.int .i64 i7))], 49, []⟩) (fun x => iter (F10_b2 values1) x.1 x.2 = some (r2, r3)) (fun x => x.1) (BIG, ([], 0)) h ?_
      clear h
      intro ⟨n36, s6, i7⟩ h
      replace h := iter_some h; obtain ⟨m10, rfl, h⟩ := h
      rw [F10_b2] at h
      try dsimp only at h
      show AW _ _ _ _ ⟨sl [(0, .pv (.slice (List.map PV.str values1))), (4, .pv (.str s6)), (5, .pv (.int .i64 i7))], 49, []⟩
      refine AW.seq ?_
      refine AW.seq ?_
      refine AW.reg hS [(0, .pv (.slice (List.map PV.str values1))), (4, .pv (.str s6)), (5, .pv (.int .i64 i7)), (16, .pv (.bool (decide (i7 < (values1.length : Int)))))] [] ?_ ?_
      · exact dk
      refine AW.cond (b := decide (i7 < (values1.length : Int))) rfl (fun hb11 => ?_) (fun hb11 => ?_)
      · replace h := bif_t hb11 h
        refine AW.skip ?_
        refine AW.seq ?_
        refine AW.block ?_
        refine AW.seq ?_
        refine AW.seq ?_
        refine AW.reg hS [(0, .pv (.slice (List.map PV.str values1))), (4, .pv (.str s6)), (5, .pv (.int .i64 i7)), (6, .pv (.int .i64 0))] [] ?_ ?_
        · exact dk
        refine AW.block ?_
        refine AW.weak (Weak.slots (L := [(0, .pv (.slice (List.map PV.str values1))), (4, .pv (.str s6)), (5, .pv (.int .i64 i7)), (6, .pv (.int .i64 0))]) ⟨rfl, rfl, rfl, rfl, trivial⟩) ?_
        refine AW.loopI (α := Nat × Int) (fun (_, k12) => ⟨sl [(0, .pv (.slice (List.map PV.str values1))), (4, .pv (.str s6)), (5, .pv (.int .i64 i7)), (6, .pv (.int .i64 k12))], 49, []⟩) (fun x => iter (F10_b3 values1 i7 s6 (iter (F10_b2 values1) m10)) x.1 x.2 = some (r2, r3)) (fun x => x.1) (BIG, 0) h ?_
        clear h
        intro ⟨n34, k12⟩ h
        replace h := iter_some h; obtain ⟨m15, rfl, h⟩ := h
        rw [F10_b3] at h
        try dsimp only at h
        show AW _ _ _ _ ⟨sl [(0, .pv (.slice (List.map PV.str values1))), (4, .pv (.str s6)), (5, .pv (.int .i64 i7)), (6, .pv (.int .i64 k12))], 49, []⟩
        refine AW.seq ?_
        refine AW.seq ?_
        replace h := obs h; obtain ⟨w16, q17, h⟩ := h
        have f18 := lidx_f q17
        refine AW.reg hS [(0, .pv (.slice (List.map PV.str values1))), (4, .pv (.str s6)), (5, .pv (.int .i64 i7)), (6, .pv (.int .i64 k12)), (25, .pv (.bool (decide (k12 < (w16.length : Int)))))] [] ?_ ?_
        · exact dk1 (an f18.1 f18.2.1)
        refine AW.cond (b := decide (k12 < (w16.length : Int))) rfl (fun hb19 => ?_) (fun hb19 => ?_)
        · replace h := bif_t hb19 h
          refine AW.skip ?_
          refine AW.seq ?_
          refine AW.block ?_
          refine AW.seq ?_
          replace h := obs h; obtain ⟨c20, q21, h⟩ := h
          have f22 := sidx_f q21
          refine AW.reg hS [(0, .pv (.slice (List.map PV.str values1))), (4, .pv (.str s6)), (5, .pv (.int .i64 i7)), (6, .pv (.int .i64 k12)), (34, .pv (.bool (decide (c20 = 0))))] [] ?_ ?_
          · exact dk1 (an f18.1 (an f18.2.1 (an f22.1 (an f22.2.1 f22.2.2))))
          refine AW.cond (b := decide (c20 = 0)) rfl (fun hb23 => ?_) (fun hb23 => ?_)
          · replace h := bif_t hb23 h
            refine AW.seq ?_
            refine AW.reg hS [(2, .pv (.str [])), (3, .pv (.int .i64 2))] [] ?_ ?_
            · exact dk
            refine AW.ret ?_
            cases h
            exact fin
          · replace h := bif_f hb23 h
            refine AW.skip ?_
            refine AW.reg hS [(0, .pv (.slice (List.map PV.str values1))), (4, .pv (.str s6)), (5, .pv (.int .i64 i7)), (6, .pv (.int .i64 (IntKind.wrap .i64 (k12 + 1))))] [] ?_ ?_
            · exact dk
            exact ⟨(m15, IntKind.wrap .i64 (k12 + 1)), h, (Weak.norm (m := 0) (Nat.le_of_ble_eq_true rfl) ⟨rfl, rfl, rfl, rfl, trivial⟩ rfl rfl rfl), Nat.lt_succ_self _⟩
        · replace h := bif_f hb19 h
          refine AW.exit ?_
          refine AW.seq ?_
          refine AW.seq ?_
          refine AW.reg hS [(0, .pv (.slice (List.map PV.str values1))), (4, .pv (.str s6)), (5, .pv (.int .i64 i7)), (36, .pv (.bool (decide (0 < i7))))] [] ?_ ?_
          · exact dk
          refine AW.cond (b := decide (0 < i7)) rfl (fun hb24 => ?_) (fun hb24 => ?_)
          · replace h := bif_t hb24 h
            replace h := obs h; obtain ⟨s25, q26, h⟩ := h
            have f27 := catO_f q26
            try simp only [List.length_cons, List.length_nil, List.length_replicate, Nat.zero_add, Nat.reduceAdd, Nat.reduceLeDiff, Nat.add_zero, Nat.reduceMul] at f27
            refine AW.reg hS [(0, .pv (.slice (List.map PV.str values1))), (4, .pv (.str s25)), (5, .pv (.int .i64 i7))] [] ?_ ?_
            · exact dk1 (an f27.1 f27.2)
            replace h := obs h; obtain ⟨s28, q29, h⟩ := h
            have f30 := catO_f q29
            try simp only [List.length_cons, List.length_nil, List.length_replicate, Nat.zero_add, Nat.reduceAdd, Nat.reduceLeDiff, Nat.add_zero, Nat.reduceMul] at f30
            refine AW.reg hS [(0, .pv (.slice (List.map PV.str values1))), (4, .pv (.str s28)), (5, .pv (.int .i64 i7))] [] ?_ ?_
            · exact dk1 (an f18.1 (an f18.2.1 (an f30.1 f30.2)))
            refine AW.reg hS [(0, .pv (.slice (List.map PV.str values1))), (4, .pv (.str s28)), (5, .pv (.int .i64 (IntKind.wrap .i64 (i7 + 1))))] [] ?_ ?_
            · exact dk
            exact ⟨(m10, (s28, IntKind.wrap .i64 (i7 + 1))), h, (Weak.norm (m := 0) (Nat.le_of_ble_eq_true rfl) ⟨rfl, rfl, rfl, trivial⟩ rfl rfl rfl), Nat.lt_succ_self _⟩
          · replace h := bif_f hb24 h
            refine AW.skip ?_
            replace h := obs h; obtain ⟨s31, q32, h⟩ := h
            have f33 := catO_f q32
            try simp only [List.length_cons, List.length_nil, List.length_replicate, Nat.zero_add, Nat.reduceAdd, Nat.reduceLeDiff, Nat.add_zero, Nat.reduceMul] at f33
            refine AW.reg hS [(0, .pv (.slice (List.map PV.str values1))), (4, .pv (.str s31)), (5, .pv (.int .i64 i7))] [] ?_ ?_
            · exact dk1 (an f18.1 (an f18.2.1 (an f33.1 f33.2)))
            refine AW.reg hS [(0, .pv (.slice (List.map PV.str values1))), (4, .pv (.str s31)), (5, .pv (.int .i64 (IntKind.wrap .i64 (i7 + 1))))] [] ?_ ?_
            · exact dk
            exact ⟨(m10, (s31, IntKind.wrap .i64 (i7 + 1))), h, (Weak.norm (m := 0) (Nat.le_of_ble_eq_true rfl) ⟨rfl, rfl, rfl, trivial⟩ rfl rfl rfl), Nat.lt_succ_self _⟩
      · replace h := bif_f hb11 h
        refine AW.exit ?_
        refine AW.seq ?_
        refine AW.seq ?_
        refine AW.reg hS [(4, .pv (.str s6)), (47, .pv (.bool (decide (65536 < (s6.length : Int)))))] [] ?_ ?_
        · exact dk
        refine AW.cond (b := decide (65536 < (s6.length : Int))) rfl (fun hb35 => ?_) (fun hb35 => ?_)
        · replace h := bif_t hb35 h
          refine AW.seq ?_
          refine AW.reg hS [(2, .pv (.str [])), (3, .pv (.int .i64 4))] [] ?_ ?_
          · exact dk
          refine AW.ret ?_
          cases h
          exact fin
        · replace h := bif_f hb35 h
          refine AW.skip ?_
          refine AW.seq ?_
          refine AW.reg hS [(2, .pv (.str s6)), (3, .pv (.int .i64 0))] [] ?_ ?_
          · exact dk
          refine AW.ret ?_
          cases h
          exact fin

set_option maxHeartbeats 4000000 in
theorem g_F11 {O : Orc} (hS : Sound env O) (hpf : O.pf = pfn) (name1 : Str) (r2 : Bool) (h : F11 name1 = some r2) : Good env 11 [.pv (.str name1)] [] [.pv (.bool r2)] [] := by
  refine Good.start (fn := Tryz.f11) (N := 42) fn_11 rfl rfl (by simp) [] _ rfl rfl ?_
  rw [F11] at h
  refine AW.seq ?_
  refine AW.reg hS [(0, .pv (.str name1))] [] ?_ ?_
  · exact dk
  refine AW.seq ?_
  refine AW.seq ?_
  refine AW.reg hS [(0, .pv (.str name1)), (3, .pv (.int .i64 0))] [] ?_ ?_
  · exact dk
  refine AW.block ?_
  refine AW.weak (Weak.slots (L := [(0, .pv (.str name1)), (3, .pv (.int .i64 0))]) ⟨rfl, rfl, trivial⟩) ?_
  refine AW.loopI (α := Nat × Int) (fun (_, i3) => ⟨sl [(0, .pv (.str name1)), (3, .pv (.int .i64 i3))], 42, []⟩) (fun x => iter (F11_b1 name1) x.1 x.2 = some r2) (fun x => x.1) (BIG, 0) h ?_
  clear h
  intro ⟨n12, i3⟩ h
  replace h := iter_some h; obtain ⟨m6, rfl, h⟩ := h
  rw [F11_b1] at h
  try dsimp only at h
  show AW _ _ _ _ ⟨sl [(0, .pv (.str name1)), (3, .pv (.int .i64 i3))], 42, []⟩
  refine AW.seq ?_
  refine AW.seq ?_
  refine AW.reg hS [(0, .pv (.str name1)), (3, .pv (.int .i64 i3)), (7, .pv (.bool (decide (i3 < (name1.length : Int)))))] [] ?_ ?_
  · exact dk
  refine AW.cond (b := decide (i3 < (name1.length : Int))) rfl (fun hb7 => ?_) (fun hb7 => ?_)
  · replace h := bif_t hb7 h
    refine AW.skip ?_
    refine AW.seq ?_
    refine AW.block ?_
    refine AW.seq ?_
    replace h := obs h; obtain ⟨c8, q9, h⟩ := h
    have f10 := sidx_f q9
    refine AW.reg hS [(0, .pv (.str name1)), (3, .pv (.int .i64 i3)), (25, .pv (.bool ((decide (c8 < 33) || decide (126 < c8)) || decide (c8 = 47))))] [] ?_ ?_
    · clear h
      exact dg1 (an f10.1 (an f10.2.1 f10.2.2))
    refine AW.cond (b := ((decide (c8 < 33) || decide (126 < c8)) || decide (c8 = 47))) rfl (fun hb11 => ?_) (fun hb11 => ?_)
    · replace h := bif_t hb11 h
      refine AW.seq ?_
      refine AW.reg hS [(2, .pv (.bool false))] [] ?_ ?_
      · exact dk
      refine AW.ret ?_
      cases h
      exact fin
    · replace h := bif_f hb11 h
      refine AW.skip ?_
      refine AW.reg hS [(0, .pv (.str name1)), (3, .pv (.int .i64 (IntKind.wrap .i64 (i3 + 1))))] [] ?_ ?_
      · exact dk
      exact ⟨(m6, IntKind.wrap .i64 (i3 + 1)), h, (Weak.norm (m := 0) (Nat.le_of_ble_eq_true rfl) ⟨rfl, rfl, trivial⟩ rfl rfl rfl), Nat.lt_succ_self _⟩
  · replace h := bif_f hb7 h
    refine AW.exit ?_
    refine AW.seq ?_
    refine AW.reg hS [(2, .pv (.bool (((decide (1 ≤ (name1.length : Int)) && decide ((name1.length : Int) ≤ 64)) && !decide (name1 = [46])) && !decide (name1 = [46, 46]))))] [] ?_ ?_
    · clear h
      exact dg
    refine AW.ret ?_
    cases h
    exact fin

set_option maxHeartbeats 4000000 in
theorem g_F12 {O : Orc} (hS : Sound env O) (hpf : O.pf = pfn) (g1 : GEnv) (name2 : Str) (r3 : Int) (h : F12 g1 name2 = some r3) : Good env 12 [.pv (.agg [.int .i64 g1.id_, .int .i64 g1.next_, .slice (List.map Var.pv g1.vars_)]), .pv (.str name2)] [] [.pv (.int .i64 r3)] [] := by
  refine Good.start (fn := Tryz.f12) (N := 22) fn_12 rfl rfl (by simp) [] _ rfl rfl ?_
  rw [F12] at h
  refine AW.seq ?_
  refine AW.reg hS [(1, .pv (.str name2)), (2, .ref 0 0)] [.var [.pv (.int .i64 g1.id_), .pv (.int .i64 g1.next_), .pv (.slice (List.map Var.pv g1.vars_))]] ?_ ?_
  · exact dk
  refine AW.seq ?_
  refine AW.seq ?_
  refine AW.reg hS [(1, .pv (.str name2)), (2, .ref 0 0), (5, .pv (.int .i64 0))] [.var [.pv (.int .i64 g1.id_), .pv (.int .i64 g1.next_), .pv (.slice (List.map Var.pv g1.vars_))]] ?_ ?_
  · exact dk
  refine AW.block ?_
  refine AW.weak (Weak.slots (L := [(1, .pv (.str name2)), (2, .ref 0 0), (5, .pv (.int .i64 0))]) ⟨rfl, rfl, rfl, trivial⟩) ?_
  refine AW.loopI (α := Nat × Int) (fun (_, i4) => ⟨sl [(1, .pv (.str name2)), (2, .ref 0 0), (5, .pv (.int .i64 i4))], 22, [.var [.pv (.int .i64 g1.id_), .pv (.int .i64 g1.next_), .pv (.slice (List.map Var.pv g1.vars_))]]⟩) (fun x => iter (F12_b1 g1 name2) x.1 x.2 = some r3) (fun x => x.1) (BIG, 0) h ?_
  clear h
  intro ⟨n13, i4⟩ h
  replace h := iter_some h; obtain ⟨m7, rfl, h⟩ := h
  rw [F12_b1] at h
  try dsimp only at h
  show AW _ _ _ _ ⟨sl [(1, .pv (.str name2)), (2, .ref 0 0), (5, .pv (.int .i64 i4))], 22, [.var [.pv (.int .i64 g1.id_), .pv (.int .i64 g1.next_), .pv (.slice (List.map Var.pv g1.vars_))]]⟩
  refine AW.seq ?_
  refine AW.seq ?_
  refine AW.reg hS [(1, .pv (.str name2)), (2, .ref 0 0), (5, .pv (.int .i64 i4)), (10, .pv (.bool (decide (i4 < (g1.vars_.length : Int)))))] [.var [.pv (.int .i64 g1.id_), .pv (.int .i64 g1.next_), .pv (.slice (List.map Var.pv g1.vars_))]] ?_ ?_
  · exact dk
  refine AW.cond (b := decide (i4 < (g1.vars_.length : Int))) rfl (fun hb8 => ?_) (fun hb8 => ?_)
  · replace h := bif_t hb8 h
    refine AW.skip ?_
    refine AW.seq ?_
    refine AW.block ?_
    refine AW.seq ?_
    replace h := obs h; obtain ⟨u9, q10, h⟩ := h
    have f11 := lidx_f q10
    refine AW.reg hS [(1, .pv (.str name2)), (2, .ref 0 0), (5, .pv (.int .i64 i4)), (20, .pv (.bool (decide (u9.name_ = name2))))] [.var [.pv (.int .i64 g1.id_), .pv (.int .i64 g1.next_), .pv (.slice (List.map Var.pv g1.vars_))]] ?_ ?_
    · exact dk1 (an f11.1 f11.2.1)
    refine AW.cond (b := decide (u9.name_ = name2)) rfl (fun hb12 => ?_) (fun hb12 => ?_)
    · replace h := bif_t hb12 h
      refine AW.seq ?_
      refine AW.reg hS [(4, .pv (.int .i64 i4))] [.var [.pv (.int .i64 g1.id_), .pv (.int .i64 g1.next_), .pv (.slice (List.map Var.pv g1.vars_))]] ?_ ?_
      · exact dk
      refine AW.ret ?_
      cases h
      exact fin
    · replace h := bif_f hb12 h
      refine AW.skip ?_
      refine AW.reg hS [(1, .pv (.str name2)), (2, .ref 0 0), (5, .pv (.int .i64 (IntKind.wrap .i64 (i4 + 1))))] [.var [.pv (.int .i64 g1.id_), .pv (.int .i64 g1.next_), .pv (.slice (List.map Var.pv g1.vars_))]] ?_ ?_
      · exact dk
      exact ⟨(m7, IntKind.wrap .i64 (i4 + 1)), h, (Weak.norm (m := 1) (Nat.le_of_ble_eq_true rfl) ⟨rfl, rfl, rfl, trivial⟩ rfl rfl rfl), Nat.lt_succ_self _⟩
  · replace h := bif_f hb8 h
    refine AW.exit ?_
    refine AW.seq ?_
    refine AW.reg hS [(4, .pv (.int .i64 (-1)))] [.var [.pv (.int .i64 g1.id_), .pv (.int .i64 g1.next_), .pv (.slice (List.map Var.pv g1.vars_))]] ?_ ?_
    · exact dk
    refine AW.ret ?_
    cases h
    exact fin

set_option maxHeartbeats 4000000 in
theorem g_F6 {O : Orc} (hS : Sound env O) (hpf : O.pf = pfn) (c_F10 : C_F10 O) (c_F11 : C_F11 O) (c_F12 : C_F12 O) (l1 : List GEnv) (r2 : Bool) (h : F6 l1 = some r2) : Good env 6 [.pv (.slice (List.map GEnv.pv l1))] [] [.pv (.bool r2)] [] := by
  have pf_10 : O.pf 10 = true := by rw [hpf]; rfl
  have pf_11 : O.pf 11 = true := by rw [hpf]; rfl
  have pf_12 : O.pf 12 = true := by rw [hpf]; rfl
  refine Good.start (fn := Tryz.f6) (N := 123) fn_6 rfl rfl (by simp) [] _ rfl rfl ?_
  rw [F6] at h
  refine AW.seq ?_
  refine AW.reg hS [(0, .pv (.slice (List.map GEnv.pv l1)))] [] ?_ ?_
  · exact dk
  refine AW.seq ?_
  refine AW.seq ?_
  refine AW.reg hS [(0, .pv (.slice (List.map GEnv.pv l1))), (11, .pv (.bool (decide (64 < (l1.length : Int)))))] [] ?_ ?_
  · exact dk
  refine AW.cond (b := decide (64 < (l1.length : Int))) rfl (fun hb3 => ?_) (fun hb3 => ?_)
  · replace h := bif_t hb3 h
    refine AW.seq ?_
    refine AW.reg hS [(2, .pv (.bool false))] [] ?_ ?_
    · exact dk
    refine AW.ret ?_
    cases h
    exact fin
  · replace h := bif_f hb3 h
    refine AW.skip ?_
    refine AW.seq ?_
    refine AW.seq ?_
    refine AW.reg hS [(0, .pv (.slice (List.map GEnv.pv l1))), (3, .pv (.int .i64 0))] [] ?_ ?_
    · exact dk
    refine AW.block ?_
    refine AW.weak (Weak.slots (L := [(0, .pv (.slice (List.map GEnv.pv l1))), (3, .pv (.int .i64 0))]) ⟨rfl, rfl, trivial⟩) ?_
    refine AW.loopI (α := Nat × Int) (fun (_, i4) => ⟨sl [(0, .pv (.slice (List.map GEnv.pv l1))), (3, .pv (.int .i64 i4))], 123, []⟩) (fun x => iter (F6_b2 l1) x.1 x.2 = some r2) (fun x => x.1) (BIG, 0) h ?_
    clear h
    intro ⟨n39, i4⟩ h
    replace h := iter_some h; obtain ⟨m7, rfl, h⟩ := h
    rw [F6_b2] at h
    try dsimp only at h
    show AW _ _ _ _ ⟨sl [(0, .pv (.slice (List.map GEnv.pv l1))), (3, .pv (.int .i64 i4))], 123, []⟩
    refine AW.seq ?_
    refine AW.seq ?_
    refine AW.reg hS [(0, .pv (.slice (List.map GEnv.pv l1))), (3, .pv (.int .i64 i4)), (15, .pv (.bool (decide (i4 < (l1.length : Int)))))] [] ?_ ?_
    · exact dk
    refine AW.cond (b := decide (i4 < (l1.length : Int))) rfl (fun hb8 => ?_) (fun hb8 => ?_)
    · replace h := bif_t hb8 h
      refine AW.skip ?_
      refine AW.seq ?_
      refine AW.block ?_
      refine AW.seq ?_
      replace h := obs h; obtain ⟨u9, q10, h⟩ := h
      have f11 := lidx_f q10
      refine AW.reg hS [(0, .pv (.slice (List.map GEnv.pv l1))), (3, .pv (.int .i64 i4)), (4, .ref 0 0)] [.var [.pv (.int .i64 u9.id_), .pv (.int .i64 u9.next_), .pv (.slice (List.map Var.pv u9.vars_))]] ?_ ?_
      · exact dk1 (an f11.1 f11.2.1)
      refine AW.seq ?_
      refine AW.seq ?_
      replace h := obs h; obtain ⟨u12, q13, h⟩ := h
      have f14 := lidx_g (guardO_t q13)
      refine AW.dreg mixed hS (hpf ▸ (by kernel_rfl : orderOK pfn _ = true)) [(0, .pv (.slice (List.map GEnv.pv l1))), (3, .pv (.int .i64 i4)), (4, .ref 0 0), (60, .pv (.bool (((((decide (u9.id_ < 1) || decide (1099511627776 < u9.id_)) || (decide (0 < i4) && decide (u9.id_ ≤ u12.id_))) || decide (u9.next_ < 2)) || decide (1048576 < u9.next_)) || decide (64 < (u9.vars_.length : Int)))))] [.var [.pv (.int .i64 u9.id_), .pv (.int .i64 u9.next_), .pv (.slice (List.map Var.pv u9.vars_))]] ?_ ?_
      · clear h
        exact dg1 (an f14.1 f14.2.1)
      refine AW.cond (b := (((((decide (u9.id_ < 1) || decide (1099511627776 < u9.id_)) || (decide (0 < i4) && decide (u9.id_ ≤ u12.id_))) || decide (u9.next_ < 2)) || decide (1048576 < u9.next_)) || decide (64 < (u9.vars_.length : Int)))) rfl (fun hb15 => ?_) (fun hb15 => ?_)
      · replace h := bif_t hb15 h
        refine AW.seq ?_
        refine AW.reg hS [(2, .pv (.bool false))] [.var [.pv (.int .i64 u9.id_), .pv (.int .i64 u9.next_), .pv (.slice (List.map Var.pv u9.vars_))]] ?_ ?_
        · exact dk
        refine AW.ret ?_
        cases h
        exact fin
      · replace h := bif_f hb15 h
        refine AW.skip ?_
        refine AW.seq ?_
        refine AW.reg hS [(0, .pv (.slice (List.map GEnv.pv l1))), (3, .pv (.int .i64 i4)), (4, .ref 0 0), (5, .pv (.int .i64 0))] [.var [.pv (.int .i64 u9.id_), .pv (.int .i64 u9.next_), .pv (.slice (List.map Var.pv u9.vars_))]] ?_ ?_
        · exact dk
        refine AW.block ?_
        refine AW.weak (Weak.slots (L := [(0, .pv (.slice (List.map GEnv.pv l1))), (3, .pv (.int .i64 i4)), (4, .ref 0 0), (5, .pv (.int .i64 0))]) ⟨rfl, rfl, rfl, rfl, trivial⟩) ?_
        refine AW.loopI (α := Nat × Int) (fun (_, k16) => ⟨sl [(0, .pv (.slice (List.map GEnv.pv l1))), (3, .pv (.int .i64 i4)), (4, .ref 0 0), (5, .pv (.int .i64 k16))], 123, [.var [.pv (.int .i64 u9.id_), .pv (.int .i64 u9.next_), .pv (.slice (List.map Var.pv u9.vars_))]]⟩) (fun x => iter (F6_b3 u9 (iter (F6_b2 l1) m7) i4) x.1 x.2 = some r2) (fun x => x.1) (BIG, 0) h ?_
        clear h
        intro ⟨n38, k16⟩ h
        replace h := iter_some h; obtain ⟨m19, rfl, h⟩ := h
        rw [F6_b3] at h
        try dsimp only at h
        show AW _ _ _ _ ⟨sl [(0, .pv (.slice (List.map GEnv.pv l1))), (3, .pv (.int .i64 i4)), (4, .ref 0 0), (5, .pv (.int .i64 k16))], 123, [.var [.pv (.int .i64 u9.id_), .pv (.int .i64 u9.next_), .pv (.slice (List.map Var.pv u9.vars_))]]⟩
        refine AW.seq ?_
        refine AW.seq ?_
        refine AW.reg hS [(0, .pv (.slice (List.map GEnv.pv l1))), (3, .pv (.int .i64 i4)), (4, .ref 0 0), (5, .pv (.int .i64 k16)), (65, .pv (.bool (decide (k16 < (u9.vars_.length : Int)))))] [.var [.pv (.int .i64 u9.id_), .pv (.int .i64 u9.next_), .pv (.slice (List.map Var.pv u9.vars_))]] ?_ ?_
        · exact dk
        refine AW.cond (b := decide (k16 < (u9.vars_.length : Int))) rfl (fun hb20 => ?_) (fun hb20 => ?_)
        · replace h := bif_t hb20 h
          refine AW.skip ?_
          refine AW.seq ?_
          refine AW.block ?_
          refine AW.seq ?_
          replace h := obs h; obtain ⟨u21, q22, h⟩ := h
          have f23 := lidx_f q22
          refine AW.reg hS [(0, .pv (.slice (List.map GEnv.pv l1))), (3, .pv (.int .i64 i4)), (4, .ref 0 0), (5, .pv (.int .i64 k16)), (6, .ref 1 0)] [.var [.pv (.int .i64 u9.id_), .pv (.int .i64 u9.next_), .pv (.slice (List.map Var.pv u9.vars_))], .var [.pv (.int .i64 u21.id_), .pv (.str u21.name_), .pv (.slice (List.map PV.str u21.values_))]] ?_ ?_
          · exact dk1 (an f23.1 f23.2.1)
          refine AW.seq ?_
          replace h := obs h; obtain ⟨⟨r24, r25⟩, q26, h⟩ := h
          dsimp only at h
          have f27 := c_F10 u21.values_ r24 r25 q26
          try dsimp only at f27
          refine AW.reg hS [(0, .pv (.slice (List.map GEnv.pv l1))), (3, .pv (.int .i64 i4)), (4, .ref 0 0), (5, .pv (.int .i64 k16)), (6, .ref 1 0), (8, .pv (.int .i64 r25))] [.var [.pv (.int .i64 u9.id_), .pv (.int .i64 u9.next_), .pv (.slice (List.map Var.pv u9.vars_))], .var [.pv (.int .i64 u21.id_), .pv (.str u21.name_), .pv (.slice (List.map PV.str u21.values_))]] ?_ ?_
          · exact dk1 (an pf_10 f27)
          refine AW.seq ?_
          replace h := obs h; obtain ⟨r28, q29, h⟩ := h
          have f30 := fun hg => c_F11 u21.name_ r28 (guardO_t q29 hg)
          try dsimp only at f30
          replace h := obs h; obtain ⟨r31, q32, h⟩ := h
          have f33 := fun hg => c_F12 u9 u21.name_ r31 (guardO_t q32 hg)
          try dsimp only at f33
          replace h := obs h; obtain ⟨u34, q35, h⟩ := h
          have f36 := lidx_g (guardO_t q35)
          refine AW.dreg mixed hS (hpf ▸ (by kernel_rfl : orderOK pfn _ = true)) [(0, .pv (.slice (List.map GEnv.pv l1))), (3, .pv (.int .i64 i4)), (4, .ref 0 0), (5, .pv (.int .i64 k16)), (122, .pv (.bool (((((!decide (r25 = 0) || !r28) || !decide (r31 = k16)) || decide (u21.id_ < 2)) || decide (u9.next_ ≤ u21.id_)) || (decide (0 < k16) && decide (u21.id_ ≤ u34.id_)))))] [.var [.pv (.int .i64 u9.id_), .pv (.int .i64 u9.next_), .pv (.slice (List.map Var.pv u9.vars_))], .var [.pv (.int .i64 u21.id_), .pv (.str u21.name_), .pv (.slice (List.map PV.str u21.values_))]] ?_ ?_
          · clear h
            exact dg1 (an pf_11 (an f30 (an pf_12 (an f33 (an f36.1 f36.2.1)))))
          refine AW.cond (b := (((((!decide (r25 = 0) || !r28) || !decide (r31 = k16)) || decide (u21.id_ < 2)) || decide (u9.next_ ≤ u21.id_)) || (decide (0 < k16) && decide (u21.id_ ≤ u34.id_)))) rfl (fun hb37 => ?_) (fun hb37 => ?_)
          · replace h := bif_t hb37 h
            refine AW.seq ?_
            refine AW.reg hS [(2, .pv (.bool false))] [.var [.pv (.int .i64 u9.id_), .pv (.int .i64 u9.next_), .pv (.slice (List.map Var.pv u9.vars_))], .var [.pv (.int .i64 u21.id_), .pv (.str u21.name_), .pv (.slice (List.map PV.str u21.values_))]] ?_ ?_
            · exact dk
            refine AW.ret ?_
            cases h
            exact fin
          · replace h := bif_f hb37 h
            refine AW.skip ?_
            refine AW.reg hS [(0, .pv (.slice (List.map GEnv.pv l1))), (3, .pv (.int .i64 i4)), (4, .ref 0 0), (5, .pv (.int .i64 (IntKind.wrap .i64 (k16 + 1))))] [.var [.pv (.int .i64 u9.id_), .pv (.int .i64 u9.next_), .pv (.slice (List.map Var.pv u9.vars_))], .var [.pv (.int .i64 u21.id_), .pv (.str u21.name_), .pv (.slice (List.map PV.str u21.values_))]] ?_ ?_
            · exact dk
            exact ⟨(m19, IntKind.wrap .i64 (k16 + 1)), h, (Weak.norm (m := 1) (Nat.le_of_ble_eq_true rfl) ⟨rfl, rfl, rfl, rfl, trivial⟩ rfl rfl rfl), Nat.lt_succ_self _⟩
        · replace h := bif_f hb20 h
          refine AW.exit ?_
          refine AW.reg hS [(0, .pv (.slice (List.map GEnv.pv l1))), (3, .pv (.int .i64 (IntKind.wrap .i64 (i4 + 1))))] [.var [.pv (.int .i64 u9.id_), .pv (.int .i64 u9.next_), .pv (.slice (List.map Var.pv u9.vars_))]] ?_ ?_
          · exact dk
          exact ⟨(m7, IntKind.wrap .i64 (i4 + 1)), h, (Weak.norm (m := 0) (Nat.le_of_ble_eq_true rfl) ⟨rfl, rfl, trivial⟩ rfl rfl rfl), Nat.lt_succ_self _⟩
    · replace h := bif_f hb8 h
      refine AW.exit ?_
      refine AW.seq ?_
      refine AW.reg hS [(2, .pv (.bool true))] [] ?_ ?_
      · exact dk
      refine AW.ret ?_
      cases h
      exact fin

set_option maxHeartbeats 4000000 in
theorem g_F34 {O : Orc} (hS : Sound env O) (hpf : O.pf = pfn) (c_L_CloneV : C_L_CloneV O) (c_L_Clone : C_L_Clone O) (l1 : List Var) (r2 : List Var) (h : F34 l1 = some r2) : Good env 34 [.pv (.slice (List.map Var.pv l1))] [] [.vec 0 (List.length r2)] [.row 37 3 (List.map Var.pv r2) false] := by
  have pf_40 : O.pf 40 = true := by rw [hpf]; rfl
  have pf_62 : O.pf 62 = false := by rw [hpf]; rfl
  refine Good.start (fn := Tryz.f34) (N := 24) fn_34 rfl rfl (by simp) [0] _ rfl rfl ?_
  rw [F34] at h
  refine AW.seq ?_
  refine AW.reg hS [(0, .pv (.slice (List.map Var.pv l1)))] [] ?_ ?_
  · exact dk
  refine AW.seq ?_
  replace h := obs h; obtain ⟨l3, q4, h⟩ := h
  have f5 := c_L_CloneV l1 l3 q4
  try dsimp only at f5
  have e6 : ecall O [] 62 [.pv (.slice (List.map Var.pv l1))] = some (retAV [.vec 0 (List.length l3)], [.row 37 3 (List.map Var.pv l3) false]) := ecall_eq rfl rfl rfl f5 rfl rfl rfl
  refine AW.reg hS [(3, .vec 0 (List.length l3))] [.row 37 3 (List.map Var.pv l3) false] ?_ ?_
  · exact dk1 (an pf_62 e6)
  refine AW.seq ?_
  refine AW.seq ?_
  refine AW.reg hS [(3, .vec 0 (List.length l3)), (8, .pv (.int .i64 (l3.length : Int))), (9, .pv (.int .i64 0))] [.row 37 3 (List.map Var.pv l3) false] ?_ ?_
  · exact dk
  refine AW.block ?_
  refine AW.weak (Weak.slots (L := [(3, .vec 0 (List.length l3)), (8, .pv (.int .i64 (l3.length : Int))), (9, .pv (.int .i64 0))]) ⟨rfl, rfl, rfl, trivial⟩) ?_
  refine AW.loopI (α := Nat × Int × (List Var)) (fun (_, i7, l8) => ⟨sl [(3, .vec 0 (List.length l8)), (8, .pv (.int .i64 (l3.length : Int))), (9, .pv (.int .i64 i7))], 24, [.row 37 3 (List.map Var.pv l8) false]⟩) (fun x => iter (F34_b1 l3) x.1 x.2 = some r2) (fun x => x.1) (BIG, (0, l3)) h ?_
  clear h
  intro ⟨n19, i7, l8⟩ h
  replace h := iter_some h; obtain ⟨m11, rfl, h⟩ := h
  rw [F34_b1] at h
  try dsimp only at h
  show AW _ _ _ _ ⟨sl [(3, .vec 0 (List.length l8)), (8, .pv (.int .i64 (l3.length : Int))), (9, .pv (.int .i64 i7))], 24, [.row 37 3 (List.map Var.pv l8) false]⟩
  refine AW.seq ?_
  refine AW.reg hS [(3, .vec 0 (List.length l8)), (8, .pv (.int .i64 (l3.length : Int))), (9, .pv (.int .i64 i7)), (10, .pv (.bool (decide (i7 < (l3.length : Int)))))] [.row 37 3 (List.map Var.pv l8) false] ?_ ?_
  · exact dk
  refine AW.seq ?_
  refine AW.cond (b := decide (i7 < (l3.length : Int))) rfl (fun hb12 => ?_) (fun hb12 => ?_)
  · replace h := bif_t hb12 h
    refine AW.skip ?_
    refine AW.seq ?_
    refine AW.block ?_
    refine AW.seq ?_
    refine AW.reg hS [(3, .vec 0 (List.length l8)), (4, .pv (.int .i64 i7)), (8, .pv (.int .i64 (l3.length : Int))), (9, .pv (.int .i64 i7))] [.row 37 3 (List.map Var.pv l8) false] ?_ ?_
    · exact dk
    replace h := obs h; obtain ⟨u13, q14, h⟩ := h
    have f15 := lidx_f q14
    replace h := obs h; obtain ⟨l16, q17, h⟩ := h
    have f18 := c_L_Clone u13.values_ l16 q17
    try dsimp only at f18
    refine AW.reg hS [(3, .vec 0 (List.length (List.set l8 (Int.toNat i7) (Var.mk u13.id_ u13.name_ l16)))), (8, .pv (.int .i64 (l3.length : Int))), (9, .pv (.int .i64 i7))] [.row 37 3 (List.map Var.pv (List.set l8 (Int.toNat i7) (Var.mk u13.id_ u13.name_ l16))) false] ?_ ?_
    · exact dk1 (an f15.1 (an f15.2.1 (an f15.2.2 (an pf_40 f18))))
    refine AW.reg hS [(3, .vec 0 (List.length (List.set l8 (Int.toNat i7) (Var.mk u13.id_ u13.name_ l16)))), (8, .pv (.int .i64 (l3.length : Int))), (9, .pv (.int .i64 (IntKind.wrap .i64 (i7 + 1))))] [.row 37 3 (List.map Var.pv (List.set l8 (Int.toNat i7) (Var.mk u13.id_ u13.name_ l16))) false] ?_ ?_
    · exact dk
    exact ⟨(m11, (IntKind.wrap .i64 (i7 + 1), List.set l8 (Int.toNat i7) (Var.mk u13.id_ u13.name_ l16))), h, (Weak.norm (m := 1) (Nat.le_of_ble_eq_true rfl) ⟨rfl, rfl, rfl, trivial⟩ rfl rfl rfl), Nat.lt_succ_self _⟩
  · replace h := bif_f hb12 h
    refine AW.exit ?_
    refine AW.seq ?_
    refine AW.reg hS [(2, .vec 0 (List.length l8))] [.row 37 3 (List.map Var.pv l8) false] ?_ ?_
    · exact dk
    refine AW.ret ?_
    cases h
    exact fin

set_option maxHeartbeats 4000000 in
theorem g_F32 {O : Orc} (hS : Sound env O) (hpf : O.pf = pfn) (c_L_CloneE : C_L_CloneE O) (c_F34 : C_F34 O) (l1 : List GEnv) (r2 : List GEnv) (m3 : Nat) (h : F32 l1 = some (r2, m3)) : Good env 32 [.pv (.slice (List.map GEnv.pv l1))] [] [.vec 0 (List.length r2)] [.tree 34 3 2 37 3 m3 (List.map GEnv.pv r2)] := by
  have pf_34 : O.pf 34 = false := by rw [hpf]; rfl
  have pf_59 : O.pf 59 = false := by rw [hpf]; rfl
  refine Good.start (fn := Tryz.f32) (N := 24) fn_32 rfl rfl (by simp) [0] _ rfl rfl ?_
  rw [F32] at h
  refine AW.seq ?_
  refine AW.reg hS [(0, .pv (.slice (List.map GEnv.pv l1)))] [] ?_ ?_
  · exact dk
  refine AW.seq ?_
  replace h := obs h; obtain ⟨l4, q5, h⟩ := h
  have f6 := c_L_CloneE l1 l4 q5
  try dsimp only at f6
  have e7 : ecall O [] 59 [.pv (.slice (List.map GEnv.pv l1))] = some (retAV [.vec 0 (List.length l4)], [.row 34 3 (List.map GEnv.pv l4) false]) := ecall_eq rfl rfl rfl f6 rfl rfl rfl
  refine AW.reg hS [(3, .vec 0 (List.length l4))] [.row 34 3 (List.map GEnv.pv l4) false] ?_ ?_
  · exact dk1 (an pf_59 e7)
  refine AW.seq ?_
  refine AW.seq ?_
  refine AW.reg hS [(3, .vec 0 (List.length l4)), (8, .pv (.int .i64 (l4.length : Int))), (9, .pv (.int .i64 0))] [.row 34 3 (List.map GEnv.pv l4) false] ?_ ?_
  · exact dk
  refine AW.block ?_
  refine AW.weak (Weak.treeStart 0 2 37 3 rfl (by decide)) ?_
  refine AW.weak (σ' := ⟨sl [(3, .vec 0 (List.length l4)), (8, .pv (.int .i64 (l4.length : Int))), (9, .pv (.int .i64 0))], 24, [.tree 34 3 2 37 3 0 (List.map GEnv.pv l4)]⟩) (Weak.slots ⟨rfl, rfl, rfl, trivial⟩) ?_
  refine AW.weak (Weak.slots (L := [(3, .vec 0 (List.length l4)), (8, .pv (.int .i64 (l4.length : Int))), (9, .pv (.int .i64 0))]) ⟨rfl, rfl, rfl, trivial⟩) ?_
  refine AW.loopI (α := Nat × Int × (List GEnv) × Nat) (fun (_, i8, l9, m10) => ⟨sl [(3, .vec 0 (List.length l9)), (8, .pv (.int .i64 (l4.length : Int))), (9, .pv (.int .i64 i8))], 24, [.tree 34 3 2 37 3 m10 (List.map GEnv.pv l9)]⟩) (fun x => iter (F32_b1 l4) x.1 x.2 = some (r2, m3)) (fun x => x.1) (BIG, (0, l4, 0)) h ?_
  clear h
  intro ⟨n25, i8, l9, m10⟩ h
  replace h := iter_some h; obtain ⟨m13, rfl, h⟩ := h
  rw [F32_b1] at h
  try dsimp only at h
  show AW _ _ _ _ ⟨sl [(3, .vec 0 (List.length l9)), (8, .pv (.int .i64 (l4.length : Int))), (9, .pv (.int .i64 i8))], 24, [.tree 34 3 2 37 3 m10 (List.map GEnv.pv l9)]⟩
  refine AW.seq ?_
  refine AW.reg hS [(3, .vec 0 (List.length l9)), (8, .pv (.int .i64 (l4.length : Int))), (9, .pv (.int .i64 i8)), (10, .pv (.bool (decide (i8 < (l4.length : Int)))))] [.tree 34 3 2 37 3 m10 (List.map GEnv.pv l9)] ?_ ?_
  · exact dk
  refine AW.seq ?_
  refine AW.cond (b := decide (i8 < (l4.length : Int))) rfl (fun hb14 => ?_) (fun hb14 => ?_)
  · replace h := bif_t hb14 h
    refine AW.skip ?_
    refine AW.seq ?_
    refine AW.block ?_
    refine AW.seq ?_
    refine AW.reg hS [(3, .vec 0 (List.length l9)), (4, .pv (.int .i64 i8)), (8, .pv (.int .i64 (l4.length : Int))), (9, .pv (.int .i64 i8))] [.tree 34 3 2 37 3 m10 (List.map GEnv.pv l9)] ?_ ?_
    · exact dk
    replace h := obs h; obtain ⟨u15, q16, h⟩ := h
    have f17 := lidx_f q16
    replace h := obs h; obtain ⟨u18, q19, h⟩ := h
    have f20 := eqO_f q19
    replace h := obs h; obtain ⟨r21, q22, h⟩ := h
    have f23 := c_F34 u15.vars_ r21 q22
    try dsimp only at f23
    have e24 : ecall O [.tree 34 3 2 37 3 m10 (List.map GEnv.pv l9)] 34 [.pv (.slice (List.map Var.pv u15.vars_))] = some (retAV [.vec 1 (List.length r21)], [.tree 34 3 2 37 3 m10 (List.map GEnv.pv l9), .row 37 3 (List.map Var.pv r21) false]) := ecall_eq rfl rfl rfl f23 rfl rfl rfl
    try simp only [f20] at e24
    refine AW.reg hS [(3, .vec 0 (List.length (List.set l9 (Int.toNat i8) (GEnv.mk u15.id_ u15.next_ r21)))), (8, .pv (.int .i64 (l4.length : Int))), (9, .pv (.int .i64 i8))] [.tree 34 3 2 37 3 (m10 + 1) (List.map GEnv.pv (List.set l9 (Int.toNat i8) (GEnv.mk u15.id_ u15.next_ r21))), .moved 37 3 (List.length r21)] ?_ ?_
    · simp -implicitDefEqProofs only [RUNS, qindex, Nat.reduceAdd, Nat.reduceLeDiff, Nat.reduceSub, reduceIte, Nat.reduceEqDiff, Nat.reduceLT, reduceCtorEq, Nat.reduceMul, Nat.reduceBEq, Int.reduceEq, if_true, if_false, eq_self, ne_eq, TYS, f17.1, f17.2.1, f17.2.2, f20, pf_34, e24, storeTree.eq_1, List.length_set] <;> (try simp only [List.length_take, List.length_drop, List.length_map])
    refine AW.reg hS [(3, .vec 0 (List.length (List.set l9 (Int.toNat i8) (GEnv.mk u15.id_ u15.next_ r21)))), (8, .pv (.int .i64 (l4.length : Int))), (9, .pv (.int .i64 (IntKind.wrap .i64 (i8 + 1))))] [.tree 34 3 2 37 3 (m10 + 1) (List.map GEnv.pv (List.set l9 (Int.toNat i8) (GEnv.mk u15.id_ u15.next_ r21))), .moved 37 3 (List.length r21)] ?_ ?_
    · exact dk
    exact ⟨(m13, (IntKind.wrap .i64 (i8 + 1), List.set l9 (Int.toNat i8) (GEnv.mk u15.id_ u15.next_ r21), m10 + 1)), h, (Weak.norm (m := 1) (Nat.le_of_ble_eq_true rfl) ⟨rfl, rfl, rfl, trivial⟩ rfl rfl rfl), Nat.lt_succ_self _⟩
  · replace h := bif_f hb14 h
    refine AW.exit ?_
    refine AW.seq ?_
    refine AW.reg hS [(2, .vec 0 (List.length l9))] [.tree 34 3 2 37 3 m10 (List.map GEnv.pv l9)] ?_ ?_
    · exact dk
    refine AW.ret ?_
    cases h
    exact fin

set_option maxHeartbeats 4000000 in
theorem g_F61 {O : Orc} (hS : Sound env O) (hpf : O.pf = pfn) (g1 : GEnv) (x2 : Int) (r3 : Bool) (h : F61 g1 x2 = some r3) : Good env 61 [.pv (.agg [.int .i64 g1.id_, .int .i64 g1.next_, .slice (List.map Var.pv g1.vars_)]), .ref 0 0] [.var [.pv (.int .i64 x2)]] [.pv (.bool r3)] [.var [.pv (.int .i64 x2)]] := by
  refine Good.start (fn := Tryz.f61) (N := 8) fn_61 rfl rfl (by simp) [] _ rfl rfl ?_
  rw [F61] at h
  refine AW.seq ?_
  refine AW.reg hS [(1, .ref 0 0), (2, .ref 1 0)] [.var [.pv (.int .i64 x2)], .var [.pv (.int .i64 g1.id_), .pv (.int .i64 g1.next_), .pv (.slice (List.map Var.pv g1.vars_))]] ?_ ?_
  · exact dk
  refine AW.seq ?_
  refine AW.reg hS [(3, .pv (.bool (decide (g1.id_ = x2))))] [.var [.pv (.int .i64 x2)], .var [.pv (.int .i64 g1.id_), .pv (.int .i64 g1.next_), .pv (.slice (List.map Var.pv g1.vars_))]] ?_ ?_
  · exact dk
  refine AW.ret ?_
  cases h
  exact fin

set_option maxHeartbeats 4000000 in
theorem g_F60 {O : Orc} (hS : Sound env O) (hpf : O.pf = pfn) (c_F61 : C_F61 O) (s1 : List GEnv) (x2 : Int) (r3 : Int) (h : F60 s1 x2 = some r3) : Good env 60 [.pv (.slice (List.map GEnv.pv s1)), .fn 61 [0]] [.var [.pv (.int .i64 x2)]] [.pv (.int .i64 r3)] [.var [.pv (.int .i64 x2)]] := by
  have pf_61 : O.pf 61 = false := by rw [hpf]; rfl
  refine Good.start (fn := Tryz.f60) (N := 19) fn_60 rfl rfl (by simp) [] _ rfl rfl ?_
  rw [F60] at h
  refine AW.seq ?_
  refine AW.reg hS [(0, .pv (.slice (List.map GEnv.pv s1))), (1, .fn 61 [0])] [.var [.pv (.int .i64 x2)]] ?_ ?_
  · exact dk
  refine AW.seq ?_
  refine AW.seq ?_
  refine AW.reg hS [(0, .pv (.slice (List.map GEnv.pv s1))), (1, .fn 61 [0]), (7, .pv (.int .i64 (s1.length : Int))), (8, .pv (.int .i64 0))] [.var [.pv (.int .i64 x2)]] ?_ ?_
  · exact dk
  refine AW.block ?_
  refine AW.weak (Weak.slots (L := [(0, .pv (.slice (List.map GEnv.pv s1))), (1, .fn 61 [0]), (7, .pv (.int .i64 (s1.length : Int))), (8, .pv (.int .i64 0))]) ⟨rfl, rfl, rfl, rfl, trivial⟩) ?_
  refine AW.loopI (α := Nat × Int) (fun (_, i4) => ⟨sl [(0, .pv (.slice (List.map GEnv.pv s1))), (1, .fn 61 [0]), (7, .pv (.int .i64 (s1.length : Int))), (8, .pv (.int .i64 i4))], 19, [.var [.pv (.int .i64 x2)]]⟩) (fun x => iter (F60_b1 s1 x2) x.1 x.2 = some r3) (fun x => x.1) (BIG, 0) h ?_
  clear h
  intro ⟨n17, i4⟩ h
  replace h := iter_some h; obtain ⟨m7, rfl, h⟩ := h
  rw [F60_b1] at h
  try dsimp only at h
  show AW _ _ _ _ ⟨sl [(0, .pv (.slice (List.map GEnv.pv s1))), (1, .fn 61 [0]), (7, .pv (.int .i64 (s1.length : Int))), (8, .pv (.int .i64 i4))], 19, [.var [.pv (.int .i64 x2)]]⟩
  refine AW.seq ?_
  refine AW.reg hS [(0, .pv (.slice (List.map GEnv.pv s1))), (1, .fn 61 [0]), (7, .pv (.int .i64 (s1.length : Int))), (8, .pv (.int .i64 i4)), (9, .pv (.bool (decide (i4 < (s1.length : Int)))))] [.var [.pv (.int .i64 x2)]] ?_ ?_
  · exact dk
  refine AW.seq ?_
  refine AW.cond (b := decide (i4 < (s1.length : Int))) rfl (fun hb8 => ?_) (fun hb8 => ?_)
  · replace h := bif_t hb8 h
    refine AW.skip ?_
    refine AW.seq ?_
    refine AW.block ?_
    refine AW.seq ?_
    refine AW.reg hS [(0, .pv (.slice (List.map GEnv.pv s1))), (1, .fn 61 [0]), (5, .pv (.int .i64 i4)), (7, .pv (.int .i64 (s1.length : Int))), (8, .pv (.int .i64 i4))] [.var [.pv (.int .i64 x2)]] ?_ ?_
    · exact dk
    refine AW.seq ?_
    replace h := obs h; obtain ⟨u9, q10, h⟩ := h
    have f11 := lidx_f q10
    replace h := obs h; obtain ⟨r12, q13, h⟩ := h
    have f14 := c_F61 u9 x2 r12 q13
    try dsimp only at f14
    have e15 : ecall O [.var [.pv (.int .i64 x2)]] 61 [.pv (.agg [.int .i64 u9.id_, .int .i64 u9.next_, .slice (List.map Var.pv u9.vars_)]), .ref 0 0] = some (retAV [.pv (.bool r12)], [.var [.pv (.int .i64 x2)]]) := ecall_eq rfl rfl rfl f14 rfl rfl rfl
    refine AW.reg hS [(0, .pv (.slice (List.map GEnv.pv s1))), (1, .fn 61 [0]), (5, .pv (.int .i64 i4)), (7, .pv (.int .i64 (s1.length : Int))), (8, .pv (.int .i64 i4)), (16, .pv (.bool r12))] [.var [.pv (.int .i64 x2)]] ?_ ?_
    · exact dk1 (an f11.1 (an f11.2.1 (an pf_61 e15)))
    refine AW.cond (b := r12) rfl (fun hb16 => ?_) (fun hb16 => ?_)
    · replace h := bif_t hb16 h
      refine AW.seq ?_
      refine AW.reg hS [(4, .pv (.int .i64 i4))] [.var [.pv (.int .i64 x2)]] ?_ ?_
      · exact dk
      refine AW.ret ?_
      cases h
      exact fin
    · replace h := bif_f hb16 h
      refine AW.skip ?_
      refine AW.reg hS [(0, .pv (.slice (List.map GEnv.pv s1))), (1, .fn 61 [0]), (7, .pv (.int .i64 (s1.length : Int))), (8, .pv (.int .i64 (IntKind.wrap .i64 (i4 + 1))))] [.var [.pv (.int .i64 x2)]] ?_ ?_
      · exact dk
      exact ⟨(m7, IntKind.wrap .i64 (i4 + 1)), h, (Weak.norm (m := 1) (Nat.le_of_ble_eq_true rfl) ⟨rfl, rfl, rfl, rfl, trivial⟩ rfl rfl rfl), Nat.lt_succ_self _⟩
  · replace h := bif_f hb8 h
    refine AW.exit ?_
    refine AW.seq ?_
    refine AW.reg hS [(4, .pv (.int .i64 (-1)))] [.var [.pv (.int .i64 x2)]] ?_ ?_
    · exact dk
    refine AW.ret ?_
    cases h
    exact fin

set_option maxHeartbeats 4000000 in
theorem g_F33 {O : Orc} (hS : Sound env O) (hpf : O.pf = pfn) (c_F60 : C_F60 O) (l1 : List GEnv) (group2 : Int) (r3 : Int) (h : F33 l1 group2 = some r3) : Good env 33 [.pv (.slice (List.map GEnv.pv l1)), .pv (.int .i64 group2)] [] [.pv (.int .i64 r3)] [] := by
  have pf_60 : O.pf 60 = false := by rw [hpf]; rfl
  refine Good.start (fn := Tryz.f33) (N := 8) fn_33 rfl rfl (by simp) [] _ rfl rfl ?_
  rw [F33] at h
  refine AW.seq ?_
  refine AW.reg hS [(0, .pv (.slice (List.map GEnv.pv l1))), (3, .ref 0 0)] [.var [.pv (.int .i64 group2)]] ?_ ?_
  · exact dk
  refine AW.seq ?_
  replace h := obs h; obtain ⟨r4, q5, h⟩ := h
  have f6 := c_F60 l1 group2 r4 q5
  try dsimp only at f6
  have e7 : ecall O [.var [.pv (.int .i64 group2)]] 60 [.pv (.slice (List.map GEnv.pv l1)), .fn 61 [0]] = some (retAV [.pv (.int .i64 r4)], [.var [.pv (.int .i64 group2)]]) := ecall_eq rfl rfl rfl f6 rfl rfl rfl
  refine AW.reg hS [(4, .pv (.int .i64 r4))] [.var [.pv (.int .i64 group2)]] ?_ ?_
  · exact dk1 (an pf_60 e7)
  refine AW.ret ?_
  cases h
  exact fin

set_option maxHeartbeats 4000000 in
theorem g_F13 {O : Orc} (hS : Sound env O) (hpf : O.pf = pfn) (c_F32 : C_F32 O) (c_F33 : C_F33 O) (c_F34 : C_F34 O) (c_L_InsertE : C_L_InsertE O) (l1 : List GEnv) (group2 : Int) (to3 : Int) (r4 : List GEnv) (r5 : Int) (h : F13 l1 group2 to3 = some (r4, r5)) : Good env 13 [.pv (.slice (List.map GEnv.pv l1)), .pv (.int .i64 group2), .pv (.int .i64 to3)] [] [.pv (.slice (List.map GEnv.pv r4)), .pv (.int .i64 r5)] [] := by
  have pf_32 : O.pf 32 = false := by rw [hpf]; rfl
  have pf_33 : O.pf 33 = true := by rw [hpf]; rfl
  have pf_34 : O.pf 34 = false := by rw [hpf]; rfl
  have pf_35 : O.pf 35 = false := by rw [hpf]; rfl
  refine Good.start (fn := Tryz.f13) (N := 81) fn_13 rfl rfl (by simp) [] _ rfl rfl ?_
  rw [F13] at h
  refine AW.seq ?_
  refine AW.reg hS [(0, .pv (.slice (List.map GEnv.pv l1))), (1, .pv (.int .i64 group2)), (2, .pv (.int .i64 to3))] [] ?_ ?_
  · exact dk
  refine AW.seq ?_
  replace h := obs h; obtain ⟨⟨r6, m7⟩, q8, h⟩ := h
  dsimp only at h
  have f9 := c_F32 l1 r6 m7 q8
  try dsimp only at f9
  have e10 : ecall O [] 32 [.pv (.slice (List.map GEnv.pv l1))] = some (retAV [.vec 0 (List.length r6)], [.tree 34 3 2 37 3 m7 (List.map GEnv.pv r6)]) := ecall_eq rfl rfl rfl f9 rfl rfl rfl
  refine AW.reg hS [(0, .pv (.slice (List.map GEnv.pv l1))), (1, .pv (.int .i64 group2)), (2, .pv (.int .i64 to3)), (8, .vec 0 (List.length r6))] [.tree 34 3 2 37 3 m7 (List.map GEnv.pv r6)] ?_ ?_
  · exact dk1 (an pf_32 e10)
  refine AW.seq ?_
  replace h := obs h; obtain ⟨r11, q12, h⟩ := h
  have f13 := c_F33 l1 group2 r11 q12
  try dsimp only at f13
  refine AW.reg hS [(0, .pv (.slice (List.map GEnv.pv l1))), (1, .pv (.int .i64 group2)), (2, .pv (.int .i64 to3)), (8, .vec 0 (List.length r6)), (9, .pv (.int .i64 r11))] [.tree 34 3 2 37 3 m7 (List.map GEnv.pv r6)] ?_ ?_
  · exact dk1 (an pf_33 f13)
  refine AW.seq ?_
  refine AW.block ?_
  refine AW.seq ?_
  refine AW.reg hS [(0, .pv (.slice (List.map GEnv.pv l1))), (1, .pv (.int .i64 group2)), (2, .pv (.int .i64 to3)), (8, .vec 0 (List.length r6)), (9, .pv (.int .i64 r11)), (17, .pv (.bool ((decide (to3 < 1) || decide (1099511627776 < to3)) || (!decide (group2 = 0) && decide (r11 < 0)))))] [.tree 34 3 2 37 3 m7 (List.map GEnv.pv r6)] ?_ ?_
  · clear h
    exact dg
  refine AW.cond (b := ((decide (to3 < 1) || decide (1099511627776 < to3)) || (!decide (group2 = 0) && decide (r11 < 0)))) rfl (fun hb14 => ?_) (fun hb14 => ?_)
  · replace h := bif_t hb14 h
    refine AW.seq ?_
    refine AW.reg hS [(6, .vec 0 (List.length r6)), (7, .pv (.int .i64 1))] [.tree 34 3 2 37 3 m7 (List.map GEnv.pv r6)] ?_ ?_
    · exact dk
    refine AW.weak (Weak.treeRow 0 rfl) ?_
    refine AW.weak (σ' := ⟨sl [(6, .vec 0 (List.length r6)), (7, .pv (.int .i64 1))], 81, [.row 34 3 (List.map GEnv.pv r6) false]⟩) (Weak.of_eq (Weak.slots (L := [(6, .vec 0 (List.length r6)), (7, .pv (.int .i64 1))]) ⟨rfl, rfl, trivial⟩) (by first | rfl | (simp only [List.length_set, List.length_map]; rfl))) ?_
    refine AW.weak (Weak.freeze 0 rfl) ?_
    refine AW.weak (σ' := ⟨sl [(6, .vec 0 (List.length r6)), (7, .pv (.int .i64 1))], 81, [.row 34 3 (List.map GEnv.pv r6) true]⟩) (Weak.slots ⟨rfl, rfl, trivial⟩) ?_
    refine AW.ret ?_
    cases h
    exact fin
  · replace h := bif_f hb14 h
    refine AW.seq ?_
    replace h := obs h; obtain ⟨r15, q16, h⟩ := h
    have f17 := c_F33 l1 to3 r15 q16
    try dsimp only at f17
    refine AW.reg hS [(0, .pv (.slice (List.map GEnv.pv l1))), (1, .pv (.int .i64 group2)), (2, .pv (.int .i64 to3)), (8, .vec 0 (List.length r6)), (9, .pv (.int .i64 r11)), (33, .pv (.bool (decide (0 ≤ r15))))] [.tree 34 3 2 37 3 m7 (List.map GEnv.pv r6)] ?_ ?_
    · exact dk1 (an pf_33 f17)
    refine AW.cond (b := decide (0 ≤ r15)) rfl (fun hb18 => ?_) (fun hb18 => ?_)
    · replace h := bif_t hb18 h
      refine AW.seq ?_
      refine AW.reg hS [(6, .vec 0 (List.length r6)), (7, .pv (.int .i64 7))] [.tree 34 3 2 37 3 m7 (List.map GEnv.pv r6)] ?_ ?_
      · exact dk
      refine AW.weak (Weak.treeRow 0 rfl) ?_
      refine AW.weak (σ' := ⟨sl [(6, .vec 0 (List.length r6)), (7, .pv (.int .i64 7))], 81, [.row 34 3 (List.map GEnv.pv r6) false]⟩) (Weak.of_eq (Weak.slots (L := [(6, .vec 0 (List.length r6)), (7, .pv (.int .i64 7))]) ⟨rfl, rfl, trivial⟩) (by first | rfl | (simp only [List.length_set, List.length_map]; rfl))) ?_
      refine AW.weak (Weak.freeze 0 rfl) ?_
      refine AW.weak (σ' := ⟨sl [(6, .vec 0 (List.length r6)), (7, .pv (.int .i64 7))], 81, [.row 34 3 (List.map GEnv.pv r6) true]⟩) (Weak.slots ⟨rfl, rfl, trivial⟩) ?_
      refine AW.ret ?_
      cases h
      exact fin
    · replace h := bif_f hb18 h
      refine AW.seq ?_
      refine AW.reg hS [(0, .pv (.slice (List.map GEnv.pv l1))), (1, .pv (.int .i64 group2)), (2, .pv (.int .i64 to3)), (8, .vec 0 (List.length r6)), (9, .pv (.int .i64 r11)), (39, .pv (.bool (decide (64 ≤ (l1.length : Int)))))] [.tree 34 3 2 37 3 m7 (List.map GEnv.pv r6)] ?_ ?_
      · exact dk
      refine AW.cond (b := decide (64 ≤ (l1.length : Int))) rfl (fun hb19 => ?_) (fun hb19 => ?_)
      · replace h := bif_t hb19 h
        refine AW.seq ?_
        refine AW.reg hS [(6, .vec 0 (List.length r6)), (7, .pv (.int .i64 22))] [.tree 34 3 2 37 3 m7 (List.map GEnv.pv r6)] ?_ ?_
        · exact dk
        refine AW.weak (Weak.treeRow 0 rfl) ?_
        refine AW.weak (σ' := ⟨sl [(6, .vec 0 (List.length r6)), (7, .pv (.int .i64 22))], 81, [.row 34 3 (List.map GEnv.pv r6) false]⟩) (Weak.of_eq (Weak.slots (L := [(6, .vec 0 (List.length r6)), (7, .pv (.int .i64 22))]) ⟨rfl, rfl, trivial⟩) (by first | rfl | (simp only [List.length_set, List.length_map]; rfl))) ?_
        refine AW.weak (Weak.freeze 0 rfl) ?_
        refine AW.weak (σ' := ⟨sl [(6, .vec 0 (List.length r6)), (7, .pv (.int .i64 22))], 81, [.row 34 3 (List.map GEnv.pv r6) true]⟩) (Weak.slots ⟨rfl, rfl, trivial⟩) ?_
        refine AW.ret ?_
        cases h
        exact fin
      · replace h := bif_f hb19 h
        refine AW.skip ?_
        refine AW.seq ?_
        refine AW.after ?_
        refine AW.reg hS [(0, .pv (.slice (List.map GEnv.pv l1))), (1, .pv (.int .i64 group2)), (2, .pv (.int .i64 to3)), (8, .vec 0 (List.length r6)), (9, .pv (.int .i64 r11)), (10, .ref 1 0)] [.tree 34 3 2 37 3 m7 (List.map GEnv.pv r6), .var [.pv (.int .i64 to3), .pv (.int .i64 2), .nils]] ?_ ?_
        · exact dk
        refine ⟨⟨sl [(0, .pv (.slice (List.map GEnv.pv l1))), (1, .pv (.int .i64 group2)), (2, .pv (.int .i64 to3)), (8, .vec 0 (List.length r6)), (9, .pv (.int .i64 r11)), (10, .ref 1 0)], 81, [.tree 34 3 2 37 3 m7 (List.map GEnv.pv r6), .var [.pv (.int .i64 to3), .pv (.int .i64 2), .vec 2 (List.length ([] : List Var))], .row 37 3 (List.map Var.pv ([] : List Var)) true]⟩, (Weak.trans (Weak.ownC (σ := ⟨sl [(0, .pv (.slice (List.map GEnv.pv l1))), (1, .pv (.int .i64 group2)), (2, .pv (.int .i64 to3)), (8, .vec 0 (List.length r6)), (9, .pv (.int .i64 r11)), (10, .ref 1 0)], 81, [.tree 34 3 2 37 3 m7 (List.map GEnv.pv r6), .var [.pv (.int .i64 to3), .pv (.int .i64 2), .nils]]⟩) 1 2 37 3 (by decide) (cs := [.pv (.int .i64 to3), .pv (.int .i64 2), .nils]) rfl rfl) (Weak.slots (L := [(0, .pv (.slice (List.map GEnv.pv l1))), (1, .pv (.int .i64 group2)), (2, .pv (.int .i64 to3)), (8, .vec 0 (List.length r6)), (9, .pv (.int .i64 r11)), (10, .ref 1 0)]) ⟨rfl, rfl, rfl, rfl, rfl, rfl, trivial⟩)), ?_⟩
        refine AW.seq ?_
        refine AW.seq ?_
        refine AW.reg hS [(0, .pv (.slice (List.map GEnv.pv l1))), (2, .pv (.int .i64 to3)), (8, .vec 0 (List.length r6)), (9, .pv (.int .i64 r11)), (10, .ref 1 0), (47, .pv (.bool (!decide (group2 = 0))))] [.tree 34 3 2 37 3 m7 (List.map GEnv.pv r6), .var [.pv (.int .i64 to3), .pv (.int .i64 2), .vec 2 (List.length ([] : List Var))], .row 37 3 (List.map Var.pv ([] : List Var)) true] ?_ ?_
        · exact dk
        refine AW.cond (b := !decide (group2 = 0)) rfl (fun hb20 => ?_) (fun hb20 => ?_)
        · replace h := bif_t hb20 h
          replace h := obs h; obtain ⟨u21, q22, h⟩ := h
          have f23 := lidx_f q22
          replace h := obs h; obtain ⟨r24, q25, h⟩ := h
          have f26 := c_F34 u21.vars_ r24 q25
          try dsimp only at f26
          have e27 : ecall O [.tree 34 3 2 37 3 m7 (List.map GEnv.pv r6), .var [.pv (.int .i64 to3), .pv (.int .i64 2), .vec 2 (List.length ([] : List Var))], .row 37 3 (List.map Var.pv ([] : List Var)) true] 34 [.pv (.slice (List.map Var.pv u21.vars_))] = some (retAV [.vec 3 (List.length r24)], [.tree 34 3 2 37 3 m7 (List.map GEnv.pv r6), .var [.pv (.int .i64 to3), .pv (.int .i64 2), .vec 2 (List.length ([] : List Var))], .row 37 3 (List.map Var.pv ([] : List Var)) true, .row 37 3 (List.map Var.pv r24) false]) := ecall_eq rfl rfl rfl f26 rfl rfl rfl
          try simp only [List.length_nil, List.map_nil] at e27
          refine AW.dregV mixed hS [10, 12, 14] [(0, 0), (0, 1), (1, 0), (1, 1), (2, 0), (2, 1), (3, 0), (3, 1), (4, 0), (4, 1), (5, 0), (6, 0), (7, 0), (8, 0), (9, 0), (10, 0), (11, 0), (11, 1), (12, 1), (13, 2), (14, 2)] [.pv (.slice (List.map GEnv.pv l1)), .pv (.int .i64 r11), .pptr [.int .i64 u21.id_, .int .i64 u21.next_, .slice (List.map Var.pv u21.vars_)], .pptr [.int .i64 u21.next_, .slice (List.map Var.pv u21.vars_)], .pv (.int .i64 u21.next_), .pv (.slice (List.map GEnv.pv l1)), .pv (.int .i64 r11), .pptr [.int .i64 u21.id_, .int .i64 u21.next_, .slice (List.map Var.pv u21.vars_)], .pptr [.slice (List.map Var.pv u21.vars_)], .pv (.slice (List.map Var.pv u21.vars_)), .vec 3 (List.length r24), .ref 1 1, .any, .ref 1 2, .any] [[.tree 34 3 2 37 3 m7 (List.map GEnv.pv r6), .var [.pv (.int .i64 to3), .pv (.int .i64 2), .vec 2 (List.length ([] : List Var))], .row 37 3 (List.map Var.pv ([] : List Var)) true], [.tree 34 3 2 37 3 m7 (List.map GEnv.pv r6), .var [.pv (.int .i64 to3), .pv (.int .i64 2), .vec 2 (List.length ([] : List Var))], .row 37 3 (List.map Var.pv ([] : List Var)) true, .row 37 3 (List.map Var.pv r24) false], [.tree 34 3 2 37 3 m7 (List.map GEnv.pv r6), .var [.pv (.int .i64 to3), .pv (.int .i64 u21.next_), .vec 2 (List.length ([] : List Var))], .row 37 3 (List.map Var.pv ([] : List Var)) true, .row 37 3 (List.map Var.pv r24) false], [.tree 34 3 2 37 3 m7 (List.map GEnv.pv r6), .var [.pv (.int .i64 to3), .pv (.int .i64 u21.next_), .vec 3 (List.length r24)], .row 37 3 (List.map Var.pv ([] : List Var)) true, .row 37 3 (List.map Var.pv r24) false]] [(48, .pv (.slice (List.map GEnv.pv l1))), (49, .pv (.int .i64 r11)), (50, .pptr [.int .i64 u21.id_, .int .i64 u21.next_, .slice (List.map Var.pv u21.vars_)]), (51, .pptr [.int .i64 u21.next_, .slice (List.map Var.pv u21.vars_)]), (52, .pv (.int .i64 u21.next_)), (53, .pv (.slice (List.map GEnv.pv l1))), (54, .pv (.int .i64 r11)), (55, .pptr [.int .i64 u21.id_, .int .i64 u21.next_, .slice (List.map Var.pv u21.vars_)]), (56, .pptr [.slice (List.map Var.pv u21.vars_)]), (57, .pv (.slice (List.map Var.pv u21.vars_))), (58, .vec 3 (List.length r24)), (59, .ref 1 1), (60, .ref 1 2), (0, .pv (.slice (List.map GEnv.pv l1))), (2, .pv (.int .i64 to3)), (8, .vec 0 (List.length r6)), (9, .pv (.int .i64 r11)), (10, .ref 1 0), (47, .pv (.bool (!decide (group2 = 0))))] (by kernel_rfl) (by kernel_rfl) (by kernel_rfl) ?_ [(2, .pv (.int .i64 to3)), (8, .vec 0 (List.length r6)), (10, .ref 1 0)] [.tree 34 3 2 37 3 m7 (List.map GEnv.pv r6), .var [.pv (.int .i64 to3), .pv (.int .i64 u21.next_), .vec 3 (List.length r24)], .row 37 3 (List.map Var.pv ([] : List Var)) true, .row 37 3 (List.map Var.pv r24) false] ⟨rfl, rfl, rfl, trivial⟩ rfl ?_
          · repeat' (first | exact Facts.nil | refine Facts.cons rfl rfl rfl ?_ ?_)
            all_goals exact dv1 (an f23.1 (an f23.2.1 (an pf_34 e27)))
          refine AW.seq ?_
          refine AW.reg hS [(2, .pv (.int .i64 to3)), (8, .vec 0 (List.length r6)), (10, .ref 1 0), (11, .pv (.int .i64 0))] [.tree 34 3 2 37 3 m7 (List.map GEnv.pv r6), .var [.pv (.int .i64 to3), .pv (.int .i64 u21.next_), .vec 3 (List.length r24)], .row 37 3 (List.map Var.pv ([] : List Var)) true, .row 37 3 (List.map Var.pv r24) false] ?_ ?_
          · exact dk
          refine AW.seq ?_
          refine AW.block ?_
          refine AW.weak (Weak.treeRow 0 rfl) ?_
          refine AW.weak (σ' := ⟨sl [(2, .pv (.int .i64 to3)), (8, .vec 0 (List.length r6)), (10, .ref 1 0), (11, .pv (.int .i64 0))], 81, [.row 34 3 (List.map GEnv.pv r6) false, .var [.pv (.int .i64 to3), .pv (.int .i64 u21.next_), .vec 3 (List.length r24)], .row 37 3 (List.map Var.pv ([] : List Var)) true, .row 37 3 (List.map Var.pv r24) false]⟩) (Weak.of_eq (Weak.slots (L := [(2, .pv (.int .i64 to3)), (8, .vec 0 (List.length r6)), (10, .ref 1 0), (11, .pv (.int .i64 0))]) ⟨rfl, rfl, rfl, rfl, trivial⟩) (by first | rfl | (simp only [List.length_set, List.length_map]; rfl))) ?_
          refine AW.weak (Weak.slots (L := [(2, .pv (.int .i64 to3)), (8, .vec 0 (List.length r6)), (10, .ref 1 0), (11, .pv (.int .i64 0))]) ⟨rfl, rfl, rfl, rfl, trivial⟩) ?_
          refine AW.loopI (α := Nat × Int) (fun (_, at28) => ⟨sl [(2, .pv (.int .i64 to3)), (8, .vec 0 (List.length r6)), (10, .ref 1 0), (11, .pv (.int .i64 at28))], 81, [.row 34 3 (List.map GEnv.pv r6) false, .var [.pv (.int .i64 to3), .pv (.int .i64 u21.next_), .vec 3 (List.length r24)], .row 37 3 (List.map Var.pv ([] : List Var)) true, .row 37 3 (List.map Var.pv r24) false]⟩) (fun x => iter (F13_b1 r6 to3 u21 r24) x.1 x.2 = some (r4, r5)) (fun x => x.1) (BIG, 0) h ?_
          clear h
          intro ⟨n40, at28⟩ h
          replace h := iter_some h; obtain ⟨m31, rfl, h⟩ := h
          rw [F13_b1] at h
          try dsimp only at h
          show AW _ _ _ _ ⟨sl [(2, .pv (.int .i64 to3)), (8, .vec 0 (List.length r6)), (10, .ref 1 0), (11, .pv (.int .i64 at28))], 81, [.row 34 3 (List.map GEnv.pv r6) false, .var [.pv (.int .i64 to3), .pv (.int .i64 u21.next_), .vec 3 (List.length r24)], .row 37 3 (List.map Var.pv ([] : List Var)) true, .row 37 3 (List.map Var.pv r24) false]⟩
          refine AW.seq ?_
          refine AW.seq ?_
          replace h := obs h; obtain ⟨u32, q33, h⟩ := h
          have f34 := lidx_g (guardO_t q33)
          refine AW.reg hS [(2, .pv (.int .i64 to3)), (8, .vec 0 (List.length r6)), (10, .ref 1 0), (11, .pv (.int .i64 at28)), (73, .pv (.bool (decide (at28 < (r6.length : Int)) && decide (u32.id_ < to3))))] [.row 34 3 (List.map GEnv.pv r6) false, .var [.pv (.int .i64 to3), .pv (.int .i64 u21.next_), .vec 3 (List.length r24)], .row 37 3 (List.map Var.pv ([] : List Var)) true, .row 37 3 (List.map Var.pv r24) false] ?_ ?_
          · clear h
            exact dg1 (an f34.1 (an f34.2.1 f34.2.2))
          refine AW.cond (b := (decide (at28 < (r6.length : Int)) && decide (u32.id_ < to3))) rfl (fun hb35 => ?_) (fun hb35 => ?_)
          · replace h := bif_t hb35 h
            refine AW.skip ?_
            refine AW.block ?_
            refine AW.reg hS [(2, .pv (.int .i64 to3)), (8, .vec 0 (List.length r6)), (10, .ref 1 0), (11, .pv (.int .i64 (IntKind.wrap .i64 (at28 + 1))))] [.row 34 3 (List.map GEnv.pv r6) false, .var [.pv (.int .i64 to3), .pv (.int .i64 u21.next_), .vec 3 (List.length r24)], .row 37 3 (List.map Var.pv ([] : List Var)) true, .row 37 3 (List.map Var.pv r24) false] ?_ ?_
            · exact dk
            exact ⟨(m31, IntKind.wrap .i64 (at28 + 1)), h, (Weak.norm (m := 4) (Nat.le_of_ble_eq_true rfl) ⟨rfl, rfl, rfl, rfl, trivial⟩ rfl rfl rfl), Nat.lt_succ_self _⟩
          · replace h := bif_f hb35 h
            refine AW.exit ?_
            refine AW.seq ?_
            refine AW.weak (Weak.freeze 3 rfl) ?_
            refine AW.weak (σ' := ⟨sl [(2, .pv (.int .i64 to3)), (8, .vec 0 (List.length r6)), (10, .ref 1 0), (11, .pv (.int .i64 at28)), (73, .pv (.bool (decide (at28 < (r6.length : Int)) && decide (u32.id_ < to3))))], 81, [.row 34 3 (List.map GEnv.pv r6) false, .var [.pv (.int .i64 to3), .pv (.int .i64 u21.next_), .vec 3 (List.length r24)], .row 37 3 (List.map Var.pv ([] : List Var)) true, .row 37 3 (List.map Var.pv r24) true]⟩) (Weak.slots ⟨rfl, rfl, rfl, rfl, rfl, trivial⟩) ?_
            refine AW.weak (Weak.cellPV 1 2 (cs := [.pv (.int .i64 to3), .pv (.int .i64 u21.next_), .vec 3 (List.length r24)]) (a := .vec 3 (List.length r24)) (p := .slice (List.map Var.pv r24)) rfl rfl (by first | rfl | simp only [toPV, List.getElem?_cons_zero, List.getElem?_cons_succ, List.length_map, if_true, List.map_nil])) ?_
            refine AW.weak (σ' := ⟨sl [(2, .pv (.int .i64 to3)), (8, .vec 0 (List.length r6)), (10, .ref 1 0), (11, .pv (.int .i64 at28)), (73, .pv (.bool (decide (at28 < (r6.length : Int)) && decide (u32.id_ < to3))))], 81, [.row 34 3 (List.map GEnv.pv r6) false, .var [.pv (.int .i64 to3), .pv (.int .i64 u21.next_), .pv (.slice (List.map Var.pv r24))], .row 37 3 (List.map Var.pv ([] : List Var)) true, .row 37 3 (List.map Var.pv r24) true]⟩) (Weak.of_eq (Weak.slots (L := [(2, .pv (.int .i64 to3)), (8, .vec 0 (List.length r6)), (10, .ref 1 0), (11, .pv (.int .i64 at28)), (73, .pv (.bool (decide (at28 < (r6.length : Int)) && decide (u32.id_ < to3))))]) ⟨rfl, rfl, rfl, rfl, rfl, trivial⟩) (by first | rfl | (simp only [List.length_set, List.length_map]; rfl))) ?_
            replace h := obs h; obtain ⟨r36, q37, h⟩ := h
            have f38 := c_L_InsertE r6 at28 [GEnv.mk to3 u21.next_ r24] r36 q37
            try dsimp only at f38
            try simp only [List.map_cons, List.map_nil, P23_eq, Var.pv_eq, P32_eq, GEnv.pv_eq, GOp.pv_eq] at f38
            have e39 : ecall O [.row 34 3 (List.map GEnv.pv r6) false, .var [.pv (.int .i64 to3), .pv (.int .i64 u21.next_), .pv (.slice (List.map Var.pv r24))], .row 37 3 (List.map Var.pv ([] : List Var)) true, .row 37 3 (List.map Var.pv r24) true] 35 [.vec 0 (List.length r6), .pv (.int .i64 at28), .full (List.map GEnv.pv [GEnv.mk to3 u21.next_ r24])] = some (retAV [.vec 0 (List.length r36)], [.row 34 3 (List.map GEnv.pv r36) false, .var [.pv (.int .i64 to3), .pv (.int .i64 u21.next_), .pv (.slice (List.map Var.pv r24))], .row 37 3 (List.map Var.pv ([] : List Var)) true, .row 37 3 (List.map Var.pv r24) true]) := ecall_eq rfl rfl rfl f38 rfl rfl rfl
            try simp only [List.length_nil, List.map_nil, List.map_cons, List.map_nil, P23_eq, Var.pv_eq, P32_eq, GEnv.pv_eq, GOp.pv_eq] at e39
            refine AW.reg hS [(6, .vec 0 (List.length r36)), (7, .pv (.int .i64 0))] [.row 34 3 (List.map GEnv.pv r36) false, .var [.pv (.int .i64 to3), .pv (.int .i64 u21.next_), .pv (.slice (List.map Var.pv r24))], .row 37 3 (List.map Var.pv ([] : List Var)) true, .row 37 3 (List.map Var.pv r24) true] ?_ ?_
            · exact dk1 (an pf_35 e39)
            refine AW.weak (Weak.freeze 0 rfl) ?_
            refine AW.weak (σ' := ⟨sl [(6, .vec 0 (List.length r36)), (7, .pv (.int .i64 0))], 81, [.row 34 3 (List.map GEnv.pv r36) true, .var [.pv (.int .i64 to3), .pv (.int .i64 u21.next_), .pv (.slice (List.map Var.pv r24))], .row 37 3 (List.map Var.pv ([] : List Var)) true, .row 37 3 (List.map Var.pv r24) true]⟩) (Weak.slots ⟨rfl, rfl, trivial⟩) ?_
            refine AW.ret ?_
            cases h
            exact fin
        · replace h := bif_f hb20 h
          refine AW.skip ?_
          refine AW.seq ?_
          refine AW.reg hS [(2, .pv (.int .i64 to3)), (8, .vec 0 (List.length r6)), (10, .ref 1 0), (11, .pv (.int .i64 0))] [.tree 34 3 2 37 3 m7 (List.map GEnv.pv r6), .var [.pv (.int .i64 to3), .pv (.int .i64 2), .vec 2 (List.length ([] : List Var))], .row 37 3 (List.map Var.pv ([] : List Var)) true] ?_ ?_
          · exact dk
          refine AW.seq ?_
          refine AW.block ?_
          refine AW.weak (Weak.treeRow 0 rfl) ?_
          refine AW.weak (σ' := ⟨sl [(2, .pv (.int .i64 to3)), (8, .vec 0 (List.length r6)), (10, .ref 1 0), (11, .pv (.int .i64 0))], 81, [.row 34 3 (List.map GEnv.pv r6) false, .var [.pv (.int .i64 to3), .pv (.int .i64 2), .vec 2 (List.length ([] : List Var))], .row 37 3 (List.map Var.pv ([] : List Var)) true]⟩) (Weak.of_eq (Weak.slots (L := [(2, .pv (.int .i64 to3)), (8, .vec 0 (List.length r6)), (10, .ref 1 0), (11, .pv (.int .i64 0))]) ⟨rfl, rfl, rfl, rfl, trivial⟩) (by first | rfl | (simp only [List.length_set, List.length_map]; rfl))) ?_
          refine AW.weak (Weak.slots (L := [(2, .pv (.int .i64 to3)), (8, .vec 0 (List.length r6)), (10, .ref 1 0), (11, .pv (.int .i64 0))]) ⟨rfl, rfl, rfl, rfl, trivial⟩) ?_
          refine AW.loopI (α := Nat × Int) (fun (_, at41) => ⟨sl [(2, .pv (.int .i64 to3)), (8, .vec 0 (List.length r6)), (10, .ref 1 0), (11, .pv (.int .i64 at41))], 81, [.row 34 3 (List.map GEnv.pv r6) false, .var [.pv (.int .i64 to3), .pv (.int .i64 2), .vec 2 (List.length ([] : List Var))], .row 37 3 (List.map Var.pv ([] : List Var)) true]⟩) (fun x => iter (F13_b2 r6 to3) x.1 x.2 = some (r4, r5)) (fun x => x.1) (BIG, 0) h ?_
          clear h
          intro ⟨n53, at41⟩ h
          replace h := iter_some h; obtain ⟨m44, rfl, h⟩ := h
          rw [F13_b2] at h
          try dsimp only at h
          show AW _ _ _ _ ⟨sl [(2, .pv (.int .i64 to3)), (8, .vec 0 (List.length r6)), (10, .ref 1 0), (11, .pv (.int .i64 at41))], 81, [.row 34 3 (List.map GEnv.pv r6) false, .var [.pv (.int .i64 to3), .pv (.int .i64 2), .vec 2 (List.length ([] : List Var))], .row 37 3 (List.map Var.pv ([] : List Var)) true]⟩
          refine AW.seq ?_
          refine AW.seq ?_
          replace h := obs h; obtain ⟨u45, q46, h⟩ := h
          have f47 := lidx_g (guardO_t q46)
          refine AW.reg hS [(2, .pv (.int .i64 to3)), (8, .vec 0 (List.length r6)), (10, .ref 1 0), (11, .pv (.int .i64 at41)), (73, .pv (.bool (decide (at41 < (r6.length : Int)) && decide (u45.id_ < to3))))] [.row 34 3 (List.map GEnv.pv r6) false, .var [.pv (.int .i64 to3), .pv (.int .i64 2), .vec 2 (List.length ([] : List Var))], .row 37 3 (List.map Var.pv ([] : List Var)) true] ?_ ?_
          · clear h
            exact dg1 (an f47.1 (an f47.2.1 f47.2.2))
          refine AW.cond (b := (decide (at41 < (r6.length : Int)) && decide (u45.id_ < to3))) rfl (fun hb48 => ?_) (fun hb48 => ?_)
          · replace h := bif_t hb48 h
            refine AW.skip ?_
            refine AW.block ?_
            refine AW.reg hS [(2, .pv (.int .i64 to3)), (8, .vec 0 (List.length r6)), (10, .ref 1 0), (11, .pv (.int .i64 (IntKind.wrap .i64 (at41 + 1))))] [.row 34 3 (List.map GEnv.pv r6) false, .var [.pv (.int .i64 to3), .pv (.int .i64 2), .vec 2 (List.length ([] : List Var))], .row 37 3 (List.map Var.pv ([] : List Var)) true] ?_ ?_
            · exact dk
            exact ⟨(m44, IntKind.wrap .i64 (at41 + 1)), h, (Weak.norm (m := 3) (Nat.le_of_ble_eq_true rfl) ⟨rfl, rfl, rfl, rfl, trivial⟩ rfl rfl rfl), Nat.lt_succ_self _⟩
          · replace h := bif_f hb48 h
            refine AW.exit ?_
            refine AW.seq ?_
            refine AW.weak (Weak.cellPV 1 2 (cs := [.pv (.int .i64 to3), .pv (.int .i64 2), .vec 2 (List.length ([] : List Var))]) (a := .vec 2 (List.length ([] : List Var))) (p := .slice (List.map Var.pv ([] : List Var))) rfl rfl (by first | rfl | simp only [toPV, List.getElem?_cons_zero, List.getElem?_cons_succ, List.length_map, if_true, List.map_nil])) ?_
            refine AW.weak (σ' := ⟨sl [(2, .pv (.int .i64 to3)), (8, .vec 0 (List.length r6)), (10, .ref 1 0), (11, .pv (.int .i64 at41)), (73, .pv (.bool (decide (at41 < (r6.length : Int)) && decide (u45.id_ < to3))))], 81, [.row 34 3 (List.map GEnv.pv r6) false, .var [.pv (.int .i64 to3), .pv (.int .i64 2), .pv (.slice (List.map Var.pv ([] : List Var)))], .row 37 3 (List.map Var.pv ([] : List Var)) true]⟩) (Weak.of_eq (Weak.slots (L := [(2, .pv (.int .i64 to3)), (8, .vec 0 (List.length r6)), (10, .ref 1 0), (11, .pv (.int .i64 at41)), (73, .pv (.bool (decide (at41 < (r6.length : Int)) && decide (u45.id_ < to3))))]) ⟨rfl, rfl, rfl, rfl, rfl, trivial⟩) (by first | rfl | (simp only [List.length_set, List.length_map]; rfl))) ?_
            replace h := obs h; obtain ⟨r49, q50, h⟩ := h
            have f51 := c_L_InsertE r6 at41 [GEnv.mk to3 2 ([] : List Var)] r49 q50
            try dsimp only at f51
            try simp only [List.map_cons, List.map_nil, P23_eq, Var.pv_eq, P32_eq, GEnv.pv_eq, GOp.pv_eq] at f51
            have e52 : ecall O [.row 34 3 (List.map GEnv.pv r6) false, .var [.pv (.int .i64 to3), .pv (.int .i64 2), .pv (.slice (List.map Var.pv ([] : List Var)))], .row 37 3 (List.map Var.pv ([] : List Var)) true] 35 [.vec 0 (List.length r6), .pv (.int .i64 at41), .full (List.map GEnv.pv [GEnv.mk to3 2 ([] : List Var)])] = some (retAV [.vec 0 (List.length r49)], [.row 34 3 (List.map GEnv.pv r49) false, .var [.pv (.int .i64 to3), .pv (.int .i64 2), .pv (.slice (List.map Var.pv ([] : List Var)))], .row 37 3 (List.map Var.pv ([] : List Var)) true]) := ecall_eq rfl rfl rfl f51 rfl rfl rfl
            try simp only [List.length_nil, List.map_nil, List.map_cons, List.map_nil, P23_eq, Var.pv_eq, P32_eq, GEnv.pv_eq, GOp.pv_eq] at e52
            refine AW.reg hS [(6, .vec 0 (List.length r49)), (7, .pv (.int .i64 0))] [.row 34 3 (List.map GEnv.pv r49) false, .var [.pv (.int .i64 to3), .pv (.int .i64 2), .pv (.slice (List.map Var.pv ([] : List Var)))], .row 37 3 (List.map Var.pv ([] : List Var)) true] ?_ ?_
            · exact dk1 (an pf_35 e52)
            refine AW.weak (Weak.freeze 0 rfl) ?_
            refine AW.weak (σ' := ⟨sl [(6, .vec 0 (List.length r49)), (7, .pv (.int .i64 0))], 81, [.row 34 3 (List.map GEnv.pv r49) true, .var [.pv (.int .i64 to3), .pv (.int .i64 2), .pv (.slice (List.map Var.pv ([] : List Var)))], .row 37 3 (List.map Var.pv ([] : List Var)) true]⟩) (Weak.slots ⟨rfl, rfl, trivial⟩) ?_
            refine AW.ret ?_
            cases h
            exact fin

set_option maxHeartbeats 4000000 in
theorem g_F36 {O : Orc} (hS : Sound env O) (hpf : O.pf = pfn) (name1 : Str) (r2 : Bool) (h : F36 name1 = some r2) : Good env 36 [.pv (.str name1)] [] [.pv (.bool r2)] [] := by
  refine Good.start (fn := Tryz.f36) (N := 41) fn_36 rfl rfl (by simp) [] _ rfl rfl ?_
  rw [F36] at h
  refine AW.seq ?_
  refine AW.reg hS [(0, .pv (.str name1))] [] ?_ ?_
  · exact dk
  refine AW.seq ?_
  refine AW.seq ?_
  refine AW.reg hS [(0, .pv (.str name1)), (18, .pv (.bool (((decide (name1 = []) || decide (name1 = [46])) || decide (name1 = [46, 46])) || decide (64 < (name1.length : Int)))))] [] ?_ ?_
  · clear h
    exact dg
  refine AW.cond (b := (((decide (name1 = []) || decide (name1 = [46])) || decide (name1 = [46, 46])) || decide (64 < (name1.length : Int)))) rfl (fun hb3 => ?_) (fun hb3 => ?_)
  · replace h := bif_t hb3 h
    refine AW.seq ?_
    refine AW.reg hS [(2, .pv (.bool false))] [] ?_ ?_
    · exact dk
    refine AW.ret ?_
    cases h
    exact fin
  · replace h := bif_f hb3 h
    refine AW.skip ?_
    refine AW.seq ?_
    refine AW.seq ?_
    refine AW.reg hS [(0, .pv (.str name1)), (20, .pv (.int .i64 (name1.length : Int))), (21, .pv (.int .i64 0))] [] ?_ ?_
    · exact dk
    refine AW.block ?_
    refine AW.weak (Weak.slots (L := [(0, .pv (.str name1)), (20, .pv (.int .i64 (name1.length : Int))), (21, .pv (.int .i64 0))]) ⟨rfl, rfl, rfl, trivial⟩) ?_
    refine AW.loopI (α := Nat × Int) (fun (_, i4) => ⟨sl [(0, .pv (.str name1)), (20, .pv (.int .i64 (name1.length : Int))), (21, .pv (.int .i64 i4))], 41, []⟩) (fun x => iter (F36_b1 name1) x.1 x.2 = some r2) (fun x => x.1) (BIG, 0) h ?_
    clear h
    intro ⟨n13, i4⟩ h
    replace h := iter_some h; obtain ⟨m7, rfl, h⟩ := h
    rw [F36_b1] at h
    try dsimp only at h
    show AW _ _ _ _ ⟨sl [(0, .pv (.str name1)), (20, .pv (.int .i64 (name1.length : Int))), (21, .pv (.int .i64 i4))], 41, []⟩
    refine AW.seq ?_
    refine AW.reg hS [(0, .pv (.str name1)), (20, .pv (.int .i64 (name1.length : Int))), (21, .pv (.int .i64 i4)), (22, .pv (.bool (decide (i4 < (name1.length : Int)))))] [] ?_ ?_
    · exact dk
    refine AW.seq ?_
    refine AW.cond (b := decide (i4 < (name1.length : Int))) rfl (fun hb8 => ?_) (fun hb8 => ?_)
    · replace h := bif_t hb8 h
      refine AW.skip ?_
      refine AW.seq ?_
      refine AW.block ?_
      refine AW.seq ?_
      refine AW.reg hS [(0, .pv (.str name1)), (3, .pv (.int .i64 i4)), (20, .pv (.int .i64 (name1.length : Int))), (21, .pv (.int .i64 i4))] [] ?_ ?_
      · exact dk
      refine AW.seq ?_
      replace h := obs h; obtain ⟨c9, q10, h⟩ := h
      have f11 := sidx_f q10
      refine AW.reg hS [(0, .pv (.str name1)), (20, .pv (.int .i64 (name1.length : Int))), (21, .pv (.int .i64 i4)), (39, .pv (.bool ((decide (c9 < 33) || decide (126 < c9)) || decide (c9 = 47))))] [] ?_ ?_
      · clear h
        exact dg1 (an f11.1 (an f11.2.1 f11.2.2))
      refine AW.cond (b := ((decide (c9 < 33) || decide (126 < c9)) || decide (c9 = 47))) rfl (fun hb12 => ?_) (fun hb12 => ?_)
      · replace h := bif_t hb12 h
        refine AW.seq ?_
        refine AW.reg hS [(2, .pv (.bool false))] [] ?_ ?_
        · exact dk
        refine AW.ret ?_
        cases h
        exact fin
      · replace h := bif_f hb12 h
        refine AW.skip ?_
        refine AW.reg hS [(0, .pv (.str name1)), (20, .pv (.int .i64 (name1.length : Int))), (21, .pv (.int .i64 (IntKind.wrap .i64 (i4 + 1))))] [] ?_ ?_
        · exact dk
        exact ⟨(m7, IntKind.wrap .i64 (i4 + 1)), h, (Weak.norm (m := 0) (Nat.le_of_ble_eq_true rfl) ⟨rfl, rfl, rfl, trivial⟩ rfl rfl rfl), Nat.lt_succ_self _⟩
    · replace h := bif_f hb8 h
      refine AW.exit ?_
      refine AW.seq ?_
      refine AW.reg hS [(2, .pv (.bool true))] [] ?_ ?_
      · exact dk
      refine AW.ret ?_
      cases h
      exact fin

set_option maxHeartbeats 4000000 in
theorem g_F66 {O : Orc} (hS : Sound env O) (hpf : O.pf = pfn) (v1 : Var) (x2 : Str) (r3 : Bool) (h : F66 v1 x2 = some r3) : Good env 66 [.pv (.agg [.int .i64 v1.id_, .str v1.name_, .slice (List.map PV.str v1.values_)]), .ref 0 0] [.var [.pv (.str x2)]] [.pv (.bool r3)] [.var [.pv (.str x2)]] := by
  refine Good.start (fn := Tryz.f66) (N := 8) fn_66 rfl rfl (by simp) [] _ rfl rfl ?_
  rw [F66] at h
  refine AW.seq ?_
  refine AW.reg hS [(1, .ref 0 0), (2, .ref 1 0)] [.var [.pv (.str x2)], .var [.pv (.int .i64 v1.id_), .pv (.str v1.name_), .pv (.slice (List.map PV.str v1.values_))]] ?_ ?_
  · exact dk
  refine AW.seq ?_
  refine AW.reg hS [(3, .pv (.bool (decide (v1.name_ = x2))))] [.var [.pv (.str x2)], .var [.pv (.int .i64 v1.id_), .pv (.str v1.name_), .pv (.slice (List.map PV.str v1.values_))]] ?_ ?_
  · exact dk
  refine AW.ret ?_
  cases h
  exact fin

set_option maxHeartbeats 4000000 in
theorem g_F65 {O : Orc} (hS : Sound env O) (hpf : O.pf = pfn) (c_F66 : C_F66 O) (l1 : List Var) (x2 : Str) (r3 : Int) (h : F65 l1 x2 = some r3) : Good env 65 [.vec 0 (List.length l1), .fn 66 [1]] [.row 37 3 (List.map Var.pv l1) false, .var [.pv (.str x2)]] [.pv (.int .i64 r3)] [.row 37 3 (List.map Var.pv l1) false, .var [.pv (.str x2)]] := by
  have pf_66 : O.pf 66 = false := by rw [hpf]; rfl
  refine Good.start (fn := Tryz.f65) (N := 19) fn_65 rfl rfl (by simp) [] _ rfl rfl ?_
  rw [F65] at h
  refine AW.seq ?_
  refine AW.reg hS [(0, .vec 0 (List.length l1)), (1, .fn 66 [1])] [.row 37 3 (List.map Var.pv l1) false, .var [.pv (.str x2)]] ?_ ?_
  · exact dk
  refine AW.seq ?_
  refine AW.seq ?_
  refine AW.reg hS [(0, .vec 0 (List.length l1)), (1, .fn 66 [1]), (7, .pv (.int .i64 (l1.length : Int))), (8, .pv (.int .i64 0))] [.row 37 3 (List.map Var.pv l1) false, .var [.pv (.str x2)]] ?_ ?_
  · exact dk
  refine AW.block ?_
  refine AW.weak (Weak.slots (L := [(0, .vec 0 (List.length l1)), (1, .fn 66 [1]), (7, .pv (.int .i64 (l1.length : Int))), (8, .pv (.int .i64 0))]) ⟨rfl, rfl, rfl, rfl, trivial⟩) ?_
  refine AW.loopI (α := Nat × Int) (fun (_, i4) => ⟨sl [(0, .vec 0 (List.length l1)), (1, .fn 66 [1]), (7, .pv (.int .i64 (l1.length : Int))), (8, .pv (.int .i64 i4))], 19, [.row 37 3 (List.map Var.pv l1) false, .var [.pv (.str x2)]]⟩) (fun x => iter (F65_b1 l1 x2) x.1 x.2 = some r3) (fun x => x.1) (BIG, 0) h ?_
  clear h
  intro ⟨n17, i4⟩ h
  replace h := iter_some h; obtain ⟨m7, rfl, h⟩ := h
  rw [F65_b1] at h
  try dsimp only at h
  show AW _ _ _ _ ⟨sl [(0, .vec 0 (List.length l1)), (1, .fn 66 [1]), (7, .pv (.int .i64 (l1.length : Int))), (8, .pv (.int .i64 i4))], 19, [.row 37 3 (List.map Var.pv l1) false, .var [.pv (.str x2)]]⟩
  refine AW.seq ?_
  refine AW.reg hS [(0, .vec 0 (List.length l1)), (1, .fn 66 [1]), (7, .pv (.int .i64 (l1.length : Int))), (8, .pv (.int .i64 i4)), (9, .pv (.bool (decide (i4 < (l1.length : Int)))))] [.row 37 3 (List.map Var.pv l1) false, .var [.pv (.str x2)]] ?_ ?_
  · exact dk
  refine AW.seq ?_
  refine AW.cond (b := decide (i4 < (l1.length : Int))) rfl (fun hb8 => ?_) (fun hb8 => ?_)
  · replace h := bif_t hb8 h
    refine AW.skip ?_
    refine AW.seq ?_
    refine AW.block ?_
    refine AW.seq ?_
    refine AW.reg hS [(0, .vec 0 (List.length l1)), (1, .fn 66 [1]), (5, .pv (.int .i64 i4)), (7, .pv (.int .i64 (l1.length : Int))), (8, .pv (.int .i64 i4))] [.row 37 3 (List.map Var.pv l1) false, .var [.pv (.str x2)]] ?_ ?_
    · exact dk
    refine AW.seq ?_
    replace h := obs h; obtain ⟨u9, q10, h⟩ := h
    have f11 := lidx_f q10
    replace h := obs h; obtain ⟨r12, q13, h⟩ := h
    have f14 := c_F66 u9 x2 r12 q13
    try dsimp only at f14
    have e15 : ecall O [.row 37 3 (List.map Var.pv l1) false, .var [.pv (.str x2)]] 66 [.pv (.agg [.int .i64 u9.id_, .str u9.name_, .slice (List.map PV.str u9.values_)]), .ref 1 0] = some (retAV [.pv (.bool r12)], [.row 37 3 (List.map Var.pv l1) false, .var [.pv (.str x2)]]) := ecall_eq rfl rfl rfl f14 rfl rfl rfl
    refine AW.reg hS [(0, .vec 0 (List.length l1)), (1, .fn 66 [1]), (5, .pv (.int .i64 i4)), (7, .pv (.int .i64 (l1.length : Int))), (8, .pv (.int .i64 i4)), (16, .pv (.bool r12))] [.row 37 3 (List.map Var.pv l1) false, .var [.pv (.str x2)]] ?_ ?_
    · exact dk1 (an f11.1 (an f11.2.1 (an f11.2.2 (an pf_66 e15))))
    refine AW.cond (b := r12) rfl (fun hb16 => ?_) (fun hb16 => ?_)
    · replace h := bif_t hb16 h
      refine AW.seq ?_
      refine AW.reg hS [(4, .pv (.int .i64 i4))] [.row 37 3 (List.map Var.pv l1) false, .var [.pv (.str x2)]] ?_ ?_
      · exact dk
      refine AW.ret ?_
      cases h
      exact fin
    · replace h := bif_f hb16 h
      refine AW.skip ?_
      refine AW.reg hS [(0, .vec 0 (List.length l1)), (1, .fn 66 [1]), (7, .pv (.int .i64 (l1.length : Int))), (8, .pv (.int .i64 (IntKind.wrap .i64 (i4 + 1))))] [.row 37 3 (List.map Var.pv l1) false, .var [.pv (.str x2)]] ?_ ?_
      · exact dk
      exact ⟨(m7, IntKind.wrap .i64 (i4 + 1)), h, (Weak.norm (m := 2) (Nat.le_of_ble_eq_true rfl) ⟨rfl, rfl, rfl, rfl, trivial⟩ rfl rfl rfl), Nat.lt_succ_self _⟩
  · replace h := bif_f hb8 h
    refine AW.exit ?_
    refine AW.seq ?_
    refine AW.reg hS [(4, .pv (.int .i64 (-1)))] [.row 37 3 (List.map Var.pv l1) false, .var [.pv (.str x2)]] ?_ ?_
    · exact dk
    refine AW.ret ?_
    cases h
    exact fin

set_option maxHeartbeats 4000000 in
theorem g_F37 {O : Orc} (hS : Sound env O) (hpf : O.pf = pfn) (c_F65 : C_F65 O) (gid1 : Int) (gnext2 : Int) (name3 : Str) (l4 : List Var) (r5 : Int) (h : F37 gid1 gnext2 name3 l4 = some r5) : Good env 37 [.agg [.pv (.int .i64 gid1), .pv (.int .i64 gnext2), .vec 0 (List.length l4)], .pv (.str name3)] [.row 37 3 (List.map Var.pv l4) false] [.pv (.int .i64 r5)] [.row 37 3 (List.map Var.pv l4) false] := by
  have pf_65 : O.pf 65 = false := by rw [hpf]; rfl
  refine Good.start (fn := Tryz.f37) (N := 9) fn_37 rfl rfl (by simp) [] _ rfl rfl ?_
  rw [F37] at h
  refine AW.seq ?_
  refine AW.reg hS [(2, .ref 1 0), (3, .ref 2 0)] [.row 37 3 (List.map Var.pv l4) false, .var [.pv (.int .i64 gid1), .pv (.int .i64 gnext2), .vec 0 (List.length l4)], .var [.pv (.str name3)]] ?_ ?_
  · exact dk
  refine AW.seq ?_
  replace h := obs h; obtain ⟨r6, q7, h⟩ := h
  have f8 := c_F65 l4 name3 r6 q7
  try dsimp only at f8
  have e9 : ecall O [.row 37 3 (List.map Var.pv l4) false, .var [.pv (.int .i64 gid1), .pv (.int .i64 gnext2), .vec 0 (List.length l4)], .var [.pv (.str name3)]] 65 [.vec 0 (List.length l4), .fn 66 [2]] = some (retAV [.pv (.int .i64 r6)], [.row 37 3 (List.map Var.pv l4) false, .var [.pv (.int .i64 gid1), .pv (.int .i64 gnext2), .vec 0 (List.length l4)], .var [.pv (.str name3)]]) := ecall_eq rfl rfl rfl f8 rfl rfl rfl
  refine AW.reg hS [(4, .pv (.int .i64 r6))] [.row 37 3 (List.map Var.pv l4) false, .var [.pv (.int .i64 gid1), .pv (.int .i64 gnext2), .vec 0 (List.length l4)], .var [.pv (.str name3)]] ?_ ?_
  · exact dk1 (an pf_65 e9)
  refine AW.ret ?_
  cases h
  exact fin

set_option maxHeartbeats 4000000 in
theorem g_F68 {O : Orc} (hS : Sound env O) (hpf : O.pf = pfn) (c_L_SContains : C_L_SContains O) (v1 : Str) (r2 : Bool) (h : F68 v1 = some r2) : Good env 68 [.pv (.str v1)] [] [.pv (.bool r2)] [] := by
  have pf_69 : O.pf 69 = true := by rw [hpf]; rfl
  refine Good.start (fn := Tryz.f68) (N := 5) fn_68 rfl rfl (by simp) [] _ rfl rfl ?_
  rw [F68] at h
  refine AW.seq ?_
  refine AW.reg hS [(0, .pv (.str v1))] [] ?_ ?_
  · exact dk
  refine AW.seq ?_
  replace h := obs h; obtain ⟨ok3, q4, h⟩ := h
  have f5 := c_L_SContains v1 [0] ok3 q4
  try dsimp only at f5
  try simp only [List.map_cons, List.map_nil, P23_eq, Var.pv_eq, P32_eq, GEnv.pv_eq, GOp.pv_eq] at f5
  refine AW.reg hS [(2, .pv (.bool ok3))] [] ?_ ?_
  · exact dk1 (an pf_69 f5)
  refine AW.ret ?_
  cases h
  exact fin

set_option maxHeartbeats 4000000 in
theorem g_F84 {O : Orc} (hS : Sound env O) (hpf : O.pf = pfn) (c_F68 : C_F68 O) (s1 : List Str) (r2 : Int) (h : F84 s1 = some r2) : Good env 84 [.pv (.slice (List.map PV.str s1)), .fn 68 []] [] [.pv (.int .i64 r2)] [] := by
  have pf_68 : O.pf 68 = true := by rw [hpf]; rfl
  refine Good.start (fn := Tryz.f84) (N := 19) fn_84 rfl rfl (by simp) [] _ rfl rfl ?_
  rw [F84] at h
  refine AW.seq ?_
  refine AW.reg hS [(0, .pv (.slice (List.map PV.str s1))), (1, .fn 68 [])] [] ?_ ?_
  · exact dk
  refine AW.seq ?_
  refine AW.seq ?_
  refine AW.reg hS [(0, .pv (.slice (List.map PV.str s1))), (1, .fn 68 []), (7, .pv (.int .i64 (s1.length : Int))), (8, .pv (.int .i64 0))] [] ?_ ?_
  · exact dk
  refine AW.block ?_
  refine AW.weak (Weak.slots (L := [(0, .pv (.slice (List.map PV.str s1))), (1, .fn 68 []), (7, .pv (.int .i64 (s1.length : Int))), (8, .pv (.int .i64 0))]) ⟨rfl, rfl, rfl, rfl, trivial⟩) ?_
  refine AW.loopI (α := Nat × Int) (fun (_, i3) => ⟨sl [(0, .pv (.slice (List.map PV.str s1))), (1, .fn 68 []), (7, .pv (.int .i64 (s1.length : Int))), (8, .pv (.int .i64 i3))], 19, []⟩) (fun x => iter (F84_b1 s1) x.1 x.2 = some r2) (fun x => x.1) (BIG, 0) h ?_
  clear h
  intro ⟨n15, i3⟩ h
  replace h := iter_some h; obtain ⟨m6, rfl, h⟩ := h
  rw [F84_b1] at h
  try dsimp only at h
  show AW _ _ _ _ ⟨sl [(0, .pv (.slice (List.map PV.str s1))), (1, .fn 68 []), (7, .pv (.int .i64 (s1.length : Int))), (8, .pv (.int .i64 i3))], 19, []⟩
  refine AW.seq ?_
  refine AW.reg hS [(0, .pv (.slice (List.map PV.str s1))), (1, .fn 68 []), (7, .pv (.int .i64 (s1.length : Int))), (8, .pv (.int .i64 i3)), (9, .pv (.bool (decide (i3 < (s1.length : Int)))))] [] ?_ ?_
  · exact dk
  refine AW.seq ?_
  refine AW.cond (b := decide (i3 < (s1.length : Int))) rfl (fun hb7 => ?_) (fun hb7 => ?_)
  · replace h := bif_t hb7 h
    refine AW.skip ?_
    refine AW.seq ?_
    refine AW.block ?_
    refine AW.seq ?_
    refine AW.reg hS [(0, .pv (.slice (List.map PV.str s1))), (1, .fn 68 []), (5, .pv (.int .i64 i3)), (7, .pv (.int .i64 (s1.length : Int))), (8, .pv (.int .i64 i3))] [] ?_ ?_
    · exact dk
    refine AW.seq ?_
    replace h := obs h; obtain ⟨w8, q9, h⟩ := h
    have f10 := lidx_f q9
    replace h := obs h; obtain ⟨r11, q12, h⟩ := h
    have f13 := c_F68 w8 r11 q12
    try dsimp only at f13
    refine AW.reg hS [(0, .pv (.slice (List.map PV.str s1))), (1, .fn 68 []), (5, .pv (.int .i64 i3)), (7, .pv (.int .i64 (s1.length : Int))), (8, .pv (.int .i64 i3)), (16, .pv (.bool r11))] [] ?_ ?_
    · exact dk1 (an f10.1 (an f10.2.1 (an pf_68 f13)))
    refine AW.cond (b := r11) rfl (fun hb14 => ?_) (fun hb14 => ?_)
    · replace h := bif_t hb14 h
      refine AW.seq ?_
      refine AW.reg hS [(4, .pv (.int .i64 i3))] [] ?_ ?_
      · exact dk
      refine AW.ret ?_
      cases h
      exact fin
    · replace h := bif_f hb14 h
      refine AW.skip ?_
      refine AW.reg hS [(0, .pv (.slice (List.map PV.str s1))), (1, .fn 68 []), (7, .pv (.int .i64 (s1.length : Int))), (8, .pv (.int .i64 (IntKind.wrap .i64 (i3 + 1))))] [] ?_ ?_
      · exact dk
      exact ⟨(m6, IntKind.wrap .i64 (i3 + 1)), h, (Weak.norm (m := 0) (Nat.le_of_ble_eq_true rfl) ⟨rfl, rfl, rfl, rfl, trivial⟩ rfl rfl rfl), Nat.lt_succ_self _⟩
  · replace h := bif_f hb7 h
    refine AW.exit ?_
    refine AW.seq ?_
    refine AW.reg hS [(4, .pv (.int .i64 (-1)))] [] ?_ ?_
    · exact dk
    refine AW.ret ?_
    cases h
    exact fin

end Go.Abs.U2Z
