/- The layer 29 laws: the functions walked. -/
import Derived.Test.YtkiajanddmgmnaaGreatDoorD1
set_option linter.unusedVariables false
set_option linter.unusedSimpArgs false
set_option maxRecDepth 8000
namespace Go.Abs.U2Z
open Go.RowKit Go.Proofs

set_option maxHeartbeats 4000000 in
theorem g_F55 {O : Orc} (hS : Sound env O) (hpf : O.pf = pfn) (c_F49 : C_F49 O) (l1 : List GEnv) (group2 : Int) (id3 : Int) (r4 : Int) (r5 : Int) (r6 : Bool) (h : F55 l1 group2 id3 = some (r4, r5, r6)) : Good env 55 [.pv (.slice (List.map GEnv.pv l1)), .pv (.int .i64 group2), .pv (.int .i64 id3)] [] [.pv (.int .i64 r4), .pv (.int .i64 r5), .pv (.bool r6)] [] := by
  have pf_49 : O.pf 49 = true := by rw [hpf]; rfl
  refine Good.start (fn := Tryz.f55) (N := 42) fn_55 rfl rfl (by simp) [] _ rfl rfl ?_
  rw [F55] at h
  refine AW.seq ?_
  refine AW.reg hS [(0, .pv (.slice (List.map GEnv.pv l1))), (1, .pv (.int .i64 group2)), (2, .pv (.int .i64 id3))] [] ?_ ?_
  · exact dk
  refine AW.seq ?_
  replace h := obs h; obtain ⟨r7, q8, h⟩ := h
  have f9 := c_F49 l1 group2 r7 q8
  try dsimp only at f9
  refine AW.reg hS [(0, .pv (.slice (List.map GEnv.pv l1))), (2, .pv (.int .i64 id3)), (9, .pv (.int .i64 r7))] [] ?_ ?_
  · exact dk1 (an pf_49 f9)
  refine AW.seq ?_
  refine AW.seq ?_
  refine AW.reg hS [(0, .pv (.slice (List.map GEnv.pv l1))), (2, .pv (.int .i64 id3)), (9, .pv (.int .i64 r7)), (15, .pv (.bool (decide (r7 < 0))))] [] ?_ ?_
  · exact dk
  refine AW.cond (b := decide (r7 < 0)) rfl (fun hb10 => ?_) (fun hb10 => ?_)
  · replace h := bif_t hb10 h
    refine AW.seq ?_
    refine AW.reg hS [(6, .pv (.int .i64 0)), (7, .pv (.int .i64 0)), (8, .pv (.bool false))] [] ?_ ?_
    · exact dk
    refine AW.ret ?_
    cases h
    exact fin
  · replace h := bif_f hb10 h
    refine AW.skip ?_
    refine AW.seq ?_
    refine AW.seq ?_
    refine AW.reg hS [(0, .pv (.slice (List.map GEnv.pv l1))), (2, .pv (.int .i64 id3)), (9, .pv (.int .i64 r7)), (17, .pv (.bool (decide (id3 = 1))))] [] ?_ ?_
    · exact dk
    refine AW.cond (b := decide (id3 = 1)) rfl (fun hb11 => ?_) (fun hb11 => ?_)
    · replace h := bif_t hb11 h
      refine AW.seq ?_
      refine AW.reg hS [(6, .pv (.int .i64 r7)), (7, .pv (.int .i64 (-1))), (8, .pv (.bool true))] [] ?_ ?_
      · exact dk
      refine AW.ret ?_
      cases h
      exact fin
    · replace h := bif_f hb11 h
      refine AW.skip ?_
      refine AW.seq ?_
      refine AW.seq ?_
      refine AW.reg hS [(0, .pv (.slice (List.map GEnv.pv l1))), (2, .pv (.int .i64 id3)), (9, .pv (.int .i64 r7)), (10, .pv (.int .i64 0))] [] ?_ ?_
      · exact dk
      refine AW.block ?_
      refine AW.weak (Weak.slots (L := [(0, .pv (.slice (List.map GEnv.pv l1))), (2, .pv (.int .i64 id3)), (9, .pv (.int .i64 r7)), (10, .pv (.int .i64 0))]) ⟨rfl, rfl, rfl, rfl, trivial⟩) ?_
      refine AW.loopI (α := Nat × Int) (fun (_, k12) => ⟨sl [(0, .pv (.slice (List.map GEnv.pv l1))), (2, .pv (.int .i64 id3)), (9, .pv (.int .i64 r7)), (10, .pv (.int .i64 k12))], 42, []⟩) (fun x => iter (F55_b1 l1 r7 id3) x.1 x.2 = some (r4, r5, r6)) (fun x => x.1) (BIG, 0) h ?_
      clear h
      intro ⟨n24, k12⟩ h
      replace h := iter_some h; obtain ⟨m15, rfl, h⟩ := h
      rw [F55_b1] at h
      try dsimp only at h
      show AW _ _ _ _ ⟨sl [(0, .pv (.slice (List.map GEnv.pv l1))), (2, .pv (.int .i64 id3)), (9, .pv (.int .i64 r7)), (10, .pv (.int .i64 k12))], 42, []⟩
      refine AW.seq ?_
      refine AW.seq ?_
      replace h := obs h; obtain ⟨u16, q17, h⟩ := h
      have f18 := lidx_f q17
      refine AW.reg hS [(0, .pv (.slice (List.map GEnv.pv l1))), (2, .pv (.int .i64 id3)), (9, .pv (.int .i64 r7)), (10, .pv (.int .i64 k12)), (26, .pv (.bool (decide (k12 < (u16.vars_.length : Int)))))] [] ?_ ?_
      · exact dk1 (an f18.1 f18.2.1)
      refine AW.cond (b := decide (k12 < (u16.vars_.length : Int))) rfl (fun hb19 => ?_) (fun hb19 => ?_)
      · replace h := bif_t hb19 h
        refine AW.skip ?_
        refine AW.seq ?_
        refine AW.block ?_
        refine AW.seq ?_
        replace h := obs h; obtain ⟨u20, q21, h⟩ := h
        have f22 := lidx_f q21
        refine AW.reg hS [(0, .pv (.slice (List.map GEnv.pv l1))), (2, .pv (.int .i64 id3)), (9, .pv (.int .i64 r7)), (10, .pv (.int .i64 k12)), (39, .pv (.bool (decide (u20.id_ = id3))))] [] ?_ ?_
        · exact dk1 (an f18.1 (an f18.2.1 (an f22.1 f22.2.1)))
        refine AW.cond (b := decide (u20.id_ = id3)) rfl (fun hb23 => ?_) (fun hb23 => ?_)
        · replace h := bif_t hb23 h
          refine AW.seq ?_
          refine AW.reg hS [(6, .pv (.int .i64 r7)), (7, .pv (.int .i64 k12)), (8, .pv (.bool true))] [] ?_ ?_
          · exact dk
          refine AW.ret ?_
          cases h
          exact fin
        · replace h := bif_f hb23 h
          refine AW.skip ?_
          refine AW.reg hS [(0, .pv (.slice (List.map GEnv.pv l1))), (2, .pv (.int .i64 id3)), (9, .pv (.int .i64 r7)), (10, .pv (.int .i64 (IntKind.wrap .i64 (k12 + 1))))] [] ?_ ?_
          · exact dk
          exact ⟨(m15, IntKind.wrap .i64 (k12 + 1)), h, (Weak.norm (m := 0) (Nat.le_of_ble_eq_true rfl) ⟨rfl, rfl, rfl, rfl, trivial⟩ rfl rfl rfl), Nat.lt_succ_self _⟩
      · replace h := bif_f hb19 h
        refine AW.exit ?_
        refine AW.seq ?_
        refine AW.reg hS [(6, .pv (.int .i64 0)), (7, .pv (.int .i64 0)), (8, .pv (.bool false))] [] ?_ ?_
        · exact dk
        refine AW.ret ?_
        cases h
        exact fin

set_option maxHeartbeats 4000000 in
theorem g_F26 {O : Orc} (hS : Sound env O) (hpf : O.pf = pfn) (c_F55 : C_F55 O) (c_F11 : C_F11 O) (c_F12 : C_F12 O) (c_F53 : C_F53 O) (c_F50 : C_F50 O) (l1 : List GEnv) (group2 : Int) (id3 : Int) (name4 : Str) (r5 : List GEnv) (r6 : Int) (r7 : Int) (h : F26 l1 group2 id3 name4 = some (r5, r6, r7)) : Good env 26 [.pv (.slice (List.map GEnv.pv l1)), .pv (.int .i64 group2), .pv (.int .i64 id3), .pv (.str name4)] [] [.pv (.slice (List.map GEnv.pv r5)), .pv (.int .i64 r6), .pv (.int .i64 r7)] [] := by
  have pf_11 : O.pf 11 = true := by rw [hpf]; rfl
  have pf_12 : O.pf 12 = true := by rw [hpf]; rfl
  have pf_50 : O.pf 50 = true := by rw [hpf]; rfl
  have pf_53 : O.pf 53 = true := by rw [hpf]; rfl
  have pf_55 : O.pf 55 = true := by rw [hpf]; rfl
  refine Good.start (fn := Tryz.f26) (N := 65) fn_26 rfl rfl (by simp) [] _ rfl rfl ?_
  rw [F26] at h
  refine AW.seq ?_
  refine AW.reg hS [(0, .pv (.slice (List.map GEnv.pv l1))), (1, .pv (.int .i64 group2)), (2, .pv (.int .i64 id3)), (3, .pv (.str name4))] [] ?_ ?_
  · exact dk
  refine AW.seq ?_
  replace h := obs h; obtain ⟨⟨r8, r9, r10⟩, q11, h⟩ := h
  dsimp only at h
  have f12 := c_F55 l1 group2 id3 r8 r9 r10 q11
  try dsimp only at f12
  refine AW.reg hS [(0, .pv (.slice (List.map GEnv.pv l1))), (3, .pv (.str name4)), (11, .pv (.int .i64 r8)), (12, .pv (.int .i64 r9)), (13, .pv (.bool r10))] [] ?_ ?_
  · exact dk1 (an pf_55 f12)
  refine AW.seq ?_
  refine AW.seq ?_
  refine AW.reg hS [(0, .pv (.slice (List.map GEnv.pv l1))), (3, .pv (.str name4)), (11, .pv (.int .i64 r8)), (12, .pv (.int .i64 r9)), (25, .pv (.bool (!r10)))] [] ?_ ?_
  · exact dk
  refine AW.cond (b := !r10) rfl (fun hb13 => ?_) (fun hb13 => ?_)
  · replace h := bif_t hb13 h
    refine AW.seq ?_
    refine AW.reg hS [(8, .pv (.slice (List.map GEnv.pv l1))), (9, .pv (.int .i64 0)), (10, .pv (.int .i64 8))] [] ?_ ?_
    · exact dk
    refine AW.ret ?_
    cases h
    exact fin
  · replace h := bif_f hb13 h
    refine AW.skip ?_
    refine AW.seq ?_
    refine AW.seq ?_
    refine AW.reg hS [(0, .pv (.slice (List.map GEnv.pv l1))), (3, .pv (.str name4)), (11, .pv (.int .i64 r8)), (28, .pv (.bool (decide (0 ≤ r9))))] [] ?_ ?_
    · exact dk
    refine AW.cond (b := decide (0 ≤ r9)) rfl (fun hb14 => ?_) (fun hb14 => ?_)
    · replace h := bif_t hb14 h
      refine AW.seq ?_
      refine AW.reg hS [(8, .pv (.slice (List.map GEnv.pv l1))), (9, .pv (.int .i64 0)), (10, .pv (.int .i64 9))] [] ?_ ?_
      · exact dk
      refine AW.ret ?_
      cases h
      exact fin
    · replace h := bif_f hb14 h
      refine AW.skip ?_
      refine AW.seq ?_
      refine AW.seq ?_
      replace h := obs h; obtain ⟨r15, q16, h⟩ := h
      have f17 := c_F11 name4 r15 q16
      try dsimp only at f17
      refine AW.reg hS [(0, .pv (.slice (List.map GEnv.pv l1))), (3, .pv (.str name4)), (11, .pv (.int .i64 r8)), (32, .pv (.bool (!r15)))] [] ?_ ?_
      · exact dk1 (an pf_11 f17)
      refine AW.cond (b := !r15) rfl (fun hb18 => ?_) (fun hb18 => ?_)
      · replace h := bif_t hb18 h
        refine AW.seq ?_
        refine AW.reg hS [(8, .pv (.slice (List.map GEnv.pv l1))), (9, .pv (.int .i64 0)), (10, .pv (.int .i64 6))] [] ?_ ?_
        · exact dk
        refine AW.ret ?_
        cases h
        exact fin
      · replace h := bif_f hb18 h
        refine AW.skip ?_
        refine AW.seq ?_
        refine AW.seq ?_
        replace h := obs h; obtain ⟨u19, q20, h⟩ := h
        have f21 := lidx_f q20
        replace h := obs h; obtain ⟨r22, q23, h⟩ := h
        have f24 := c_F12 u19 name4 r22 q23
        try dsimp only at f24
        refine AW.reg hS [(0, .pv (.slice (List.map GEnv.pv l1))), (3, .pv (.str name4)), (11, .pv (.int .i64 r8)), (40, .pv (.bool (decide (0 ≤ r22))))] [] ?_ ?_
        · exact dk1 (an f21.1 (an f21.2.1 (an pf_12 f24)))
        refine AW.cond (b := decide (0 ≤ r22)) rfl (fun hb25 => ?_) (fun hb25 => ?_)
        · replace h := bif_t hb25 h
          refine AW.seq ?_
          refine AW.reg hS [(8, .pv (.slice (List.map GEnv.pv l1))), (9, .pv (.int .i64 0)), (10, .pv (.int .i64 7))] [] ?_ ?_
          · exact dk
          refine AW.ret ?_
          cases h
          exact fin
        · replace h := bif_f hb25 h
          refine AW.skip ?_
          refine AW.seq ?_
          replace h := obs h; obtain ⟨⟨r26, r27⟩, q28, h⟩ := h
          dsimp only at h
          have f29 := c_F53 u19 name4 [[]] r26 r27 q28
          try dsimp only at f29
          try simp only [List.map_cons, List.map_nil, P23_eq, Var.pv_eq, P32_eq, GEnv.pv_eq, GOp.pv_eq] at f29
          refine AW.reg hS [(0, .pv (.slice (List.map GEnv.pv l1))), (11, .pv (.int .i64 r8)), (14, .ref 0 0), (15, .pv (.int .i64 r27))] [.var [.pv (.int .i64 r26.id_), .pv (.int .i64 r26.next_), .pv (.slice (List.map Var.pv r26.vars_))]] ?_ ?_
          · exact dk1 (an f21.1 (an f21.2.1 (an pf_53 f29)))
          refine AW.seq ?_
          refine AW.seq ?_
          refine AW.reg hS [(0, .pv (.slice (List.map GEnv.pv l1))), (11, .pv (.int .i64 r8)), (14, .ref 0 0), (15, .pv (.int .i64 r27)), (53, .pv (.bool (!decide (r27 = 0))))] [.var [.pv (.int .i64 r26.id_), .pv (.int .i64 r26.next_), .pv (.slice (List.map Var.pv r26.vars_))]] ?_ ?_
          · exact dk
          refine AW.cond (b := !decide (r27 = 0)) rfl (fun hb30 => ?_) (fun hb30 => ?_)
          · replace h := bif_t hb30 h
            refine AW.seq ?_
            refine AW.reg hS [(8, .pv (.slice (List.map GEnv.pv l1))), (9, .pv (.int .i64 0)), (10, .pv (.int .i64 r27))] [.var [.pv (.int .i64 r26.id_), .pv (.int .i64 r26.next_), .pv (.slice (List.map Var.pv r26.vars_))]] ?_ ?_
            · exact dk
            refine AW.ret ?_
            cases h
            exact fin
          · replace h := bif_f hb30 h
            refine AW.skip ?_
            refine AW.seq ?_
            replace h := obs h; obtain ⟨r31, q32, h⟩ := h
            have f33 := c_F50 l1 r8 r26 r31 q32
            try dsimp only at f33
            refine AW.dreg mixed hS (hpf ▸ (by kernel_rfl : orderOK pfn _ = true)) [(8, .pv (.slice (List.map GEnv.pv r31))), (9, .pv (.int .i64 u19.next_)), (10, .pv (.int .i64 0))] [.var [.pv (.int .i64 r26.id_), .pv (.int .i64 r26.next_), .pv (.slice (List.map Var.pv r26.vars_))]] ?_ ?_
            · exact dk1 (an pf_50 (an f33 (an f21.1 f21.2.1)))
            refine AW.ret ?_
            cases h
            exact fin

set_option maxHeartbeats 4000000 in
theorem g_F56 {O : Orc} (hS : Sound env O) (hpf : O.pf = pfn) (c_F55 : C_F55 O) (c_F10 : C_F10 O) (l1 : List GEnv) (group2 : Int) (id3 : Int) (r4 : Int) (r5 : Int) (r6 : Str) (r7 : Int) (h : F56 l1 group2 id3 = some (r4, r5, r6, r7)) : Good env 56 [.pv (.slice (List.map GEnv.pv l1)), .pv (.int .i64 group2), .pv (.int .i64 id3)] [] [.pv (.int .i64 r4), .pv (.int .i64 r5), .pv (.str r6), .pv (.int .i64 r7)] [] := by
  have pf_10 : O.pf 10 = true := by rw [hpf]; rfl
  have pf_55 : O.pf 55 = true := by rw [hpf]; rfl
  refine Good.start (fn := Tryz.f56) (N := 43) fn_56 rfl rfl (by simp) [] _ rfl rfl ?_
  rw [F56] at h
  refine AW.seq ?_
  refine AW.reg hS [(0, .pv (.slice (List.map GEnv.pv l1))), (1, .pv (.int .i64 group2)), (2, .pv (.int .i64 id3))] [] ?_ ?_
  · exact dk
  refine AW.seq ?_
  replace h := obs h; obtain ⟨⟨r8, r9, r10⟩, q11, h⟩ := h
  dsimp only at h
  have f12 := c_F55 l1 group2 id3 r8 r9 r10 q11
  try dsimp only at f12
  refine AW.reg hS [(0, .pv (.slice (List.map GEnv.pv l1))), (10, .pv (.int .i64 r8)), (11, .pv (.int .i64 r9)), (12, .pv (.bool r10))] [] ?_ ?_
  · exact dk1 (an pf_55 f12)
  refine AW.seq ?_
  refine AW.seq ?_
  refine AW.reg hS [(0, .pv (.slice (List.map GEnv.pv l1))), (10, .pv (.int .i64 r8)), (11, .pv (.int .i64 r9)), (24, .pv (.bool (!r10)))] [] ?_ ?_
  · exact dk
  refine AW.cond (b := !r10) rfl (fun hb13 => ?_) (fun hb13 => ?_)
  · replace h := bif_t hb13 h
    refine AW.seq ?_
    refine AW.reg hS [(6, .pv (.int .i64 0)), (7, .pv (.int .i64 0)), (8, .pv (.str [])), (9, .pv (.int .i64 8))] [] ?_ ?_
    · exact dk
    refine AW.ret ?_
    cases h
    exact fin
  · replace h := bif_f hb13 h
    refine AW.skip ?_
    refine AW.seq ?_
    refine AW.seq ?_
    refine AW.reg hS [(0, .pv (.slice (List.map GEnv.pv l1))), (10, .pv (.int .i64 r8)), (11, .pv (.int .i64 r9)), (26, .pv (.bool (decide (r9 < 0))))] [] ?_ ?_
    · exact dk
    refine AW.cond (b := decide (r9 < 0)) rfl (fun hb14 => ?_) (fun hb14 => ?_)
    · replace h := bif_t hb14 h
      refine AW.seq ?_
      refine AW.reg hS [(6, .pv (.int .i64 0)), (7, .pv (.int .i64 0)), (8, .pv (.str [])), (9, .pv (.int .i64 10))] [] ?_ ?_
      · exact dk
      refine AW.ret ?_
      cases h
      exact fin
    · replace h := bif_f hb14 h
      refine AW.skip ?_
      refine AW.seq ?_
      replace h := obs h; obtain ⟨u15, q16, h⟩ := h
      have f17 := lidx_f q16
      replace h := obs h; obtain ⟨u18, q19, h⟩ := h
      have f20 := lidx_f q19
      replace h := obs h; obtain ⟨⟨r21, r22⟩, q23, h⟩ := h
      dsimp only at h
      have f24 := c_F10 u18.values_ r21 r22 q23
      try dsimp only at f24
      refine AW.reg hS [(10, .pv (.int .i64 r8)), (11, .pv (.int .i64 r9)), (13, .pv (.str r21))] [] ?_ ?_
      · exact dk1 (an f17.1 (an f17.2.1 (an f20.1 (an f20.2.1 (an pf_10 f24)))))
      refine AW.seq ?_
      refine AW.reg hS [(6, .pv (.int .i64 r8)), (7, .pv (.int .i64 r9)), (8, .pv (.str r21)), (9, .pv (.int .i64 0))] [] ?_ ?_
      · exact dk
      refine AW.ret ?_
      cases h
      exact fin

set_option maxHeartbeats 4000000 in
theorem g_F57 {O : Orc} (hS : Sound env O) (hpf : O.pf = pfn) (s1 : Str) (r2 : List Str) (r3 : Int) (h : F57 s1 = some (r2, r3)) : Good env 57 [.pv (.str s1)] [] [.pv (.slice (List.map PV.str r2)), .pv (.int .i64 r3)] [] := by
  refine Good.start (fn := Tryz.f57) (N := 39) fn_57 rfl rfl (by simp) [] _ rfl rfl ?_
  rw [F57] at h
  refine AW.seq ?_
  refine AW.reg hS [(0, .pv (.str s1))] [] ?_ ?_
  · exact dk
  refine AW.seq ?_
  refine AW.seq ?_
  refine AW.reg hS [(0, .pv (.str s1)), (9, .pv (.bool (decide (65536 < (s1.length : Int)))))] [] ?_ ?_
  · exact dk
  refine AW.cond (b := decide (65536 < (s1.length : Int))) rfl (fun hb4 => ?_) (fun hb4 => ?_)
  · replace h := bif_t hb4 h
    refine AW.seq ?_
    refine AW.reg hS [(2, .nils), (3, .pv (.int .i64 4))] [] ?_ ?_
    · exact dk
    refine AW.ret ?_
    cases h
    exact fin
  · replace h := bif_f hb4 h
    refine AW.skip ?_
    refine AW.seq ?_
    refine AW.reg hS [(0, .pv (.str s1)), (4, .nils)] [] ?_ ?_
    · exact dk
    refine AW.weak (Weak.own 4 9 1 (by decide) rfl) ?_
    refine AW.weak (Weak.slots (L := [(0, .pv (.str s1)), (4, .vec 0 (List.length ([] : List Str)))]) ⟨rfl, rfl, trivial⟩) ?_
    refine AW.seq ?_
    refine AW.reg hS [(0, .pv (.str s1)), (4, .vec 0 (List.length ([] : List Str))), (5, .pv (.int .i64 0))] [.row 9 1 (List.map PV.str ([] : List Str)) true] ?_ ?_
    · exact dk
    refine AW.seq ?_
    refine AW.seq ?_
    refine AW.reg hS [(0, .pv (.str s1)), (4, .vec 0 (List.length ([] : List Str))), (5, .pv (.int .i64 0)), (6, .pv (.int .i64 0))] [.row 9 1 (List.map PV.str ([] : List Str)) true] ?_ ?_
    · exact dk
    refine AW.block ?_
    refine AW.weak (Weak.slots (L := [(0, .pv (.str s1)), (4, .vec 0 (List.length ([] : List Str))), (5, .pv (.int .i64 0)), (6, .pv (.int .i64 0))]) ⟨rfl, rfl, rfl, rfl, trivial⟩) ?_
    refine AW.loopI (α := Nat × Int × Int × (List Str)) (fun (_, from5, i6, l7) => ⟨sl [(0, .pv (.str s1)), (4, .vec 0 (List.length l7)), (5, .pv (.int .i64 from5)), (6, .pv (.int .i64 i6))], 39, [.row 9 1 (List.map PV.str l7) true]⟩) (fun x => iter (F57_b1 s1) x.1 x.2 = some (r2, r3)) (fun x => x.1) (BIG, (0, 0, ([] : List Str))) h ?_
    clear h
    intro ⟨n23, from5, i6, l7⟩ h
    replace h := iter_some h; obtain ⟨m10, rfl, h⟩ := h
    rw [F57_b1] at h
    try dsimp only at h
    show AW _ _ _ _ ⟨sl [(0, .pv (.str s1)), (4, .vec 0 (List.length l7)), (5, .pv (.int .i64 from5)), (6, .pv (.int .i64 i6))], 39, [.row 9 1 (List.map PV.str l7) true]⟩
    refine AW.seq ?_
    refine AW.seq ?_
    refine AW.reg hS [(0, .pv (.str s1)), (4, .vec 0 (List.length l7)), (5, .pv (.int .i64 from5)), (6, .pv (.int .i64 i6)), (13, .pv (.bool (decide (i6 ≤ (s1.length : Int)))))] [.row 9 1 (List.map PV.str l7) true] ?_ ?_
    · exact dk
    refine AW.cond (b := decide (i6 ≤ (s1.length : Int))) rfl (fun hb11 => ?_) (fun hb11 => ?_)
    · replace h := bif_t hb11 h
      refine AW.skip ?_
      refine AW.seq ?_
      refine AW.block ?_
      refine AW.seq ?_
      replace h := obs h; obtain ⟨c12, q13, h⟩ := h
      have f14 := sidx_g (guardO_t q13)
      refine AW.reg hS [(0, .pv (.str s1)), (4, .vec 0 (List.length l7)), (5, .pv (.int .i64 from5)), (6, .pv (.int .i64 i6)), (25, .pv (.bool (decide (i6 = (s1.length : Int)) || decide (c12 = 0))))] [.row 9 1 (List.map PV.str l7) true] ?_ ?_
      · clear h
        exact dg1 (an f14.1 (an f14.2.1 f14.2.2))
      refine AW.cond (b := (decide (i6 = (s1.length : Int)) || decide (c12 = 0))) rfl (fun hb15 => ?_) (fun hb15 => ?_)
      · replace h := bif_t hb15 h
        refine AW.seq ?_
        replace h := obs h; obtain ⟨t16, q17, h⟩ := h
        have f18 := sslice_f q17
        have f18e := f18.2.2.2.2
        try simp only [Int.toNat_natCast, Int.toNat_zero, List.drop_zero] at f18e
        have f18l := f18.2.2.1
        try simp only [Int.toNat_natCast, Int.toNat_zero] at f18l
        replace h := obs h; obtain ⟨out19, q20, h⟩ := h
        have f21 := appO_f q20
        try simp only [List.length_cons, List.length_nil, List.length_replicate, Nat.zero_add, Nat.reduceAdd, Nat.reduceLeDiff, Nat.add_zero, Nat.reduceMul] at f21
        refine AW.reg hS [(0, .pv (.str s1)), (4, .vec 0 (List.length out19)), (6, .pv (.int .i64 i6))] [.row 9 1 (List.map PV.str out19) true] ?_ ?_
        · exact dkt1 (an f18.1 (an f18.2.1 (an f18l (an f18.2.2.2.1 (an f18e (an f21.1 f21.2))))))
        clear f21
        refine AW.reg hS [(0, .pv (.str s1)), (4, .vec 0 (List.length out19)), (5, .pv (.int .i64 (IntKind.wrap .i64 (i6 + 1)))), (6, .pv (.int .i64 i6))] [.row 9 1 (List.map PV.str out19) true] ?_ ?_
        · exact dk
        refine AW.reg hS [(0, .pv (.str s1)), (4, .vec 0 (List.length out19)), (5, .pv (.int .i64 (IntKind.wrap .i64 (i6 + 1)))), (6, .pv (.int .i64 (IntKind.wrap .i64 (i6 + 1))))] [.row 9 1 (List.map PV.str out19) true] ?_ ?_
        · exact dk
        exact ⟨(m10, (IntKind.wrap .i64 (i6 + 1), IntKind.wrap .i64 (i6 + 1), out19)), h, (Weak.norm (m := 1) (Nat.le_of_ble_eq_true rfl) ⟨rfl, rfl, rfl, rfl, trivial⟩ rfl rfl rfl), Nat.lt_succ_self _⟩
      · replace h := bif_f hb15 h
        refine AW.skip ?_
        refine AW.reg hS [(0, .pv (.str s1)), (4, .vec 0 (List.length l7)), (5, .pv (.int .i64 from5)), (6, .pv (.int .i64 (IntKind.wrap .i64 (i6 + 1))))] [.row 9 1 (List.map PV.str l7) true] ?_ ?_
        · exact dk
        exact ⟨(m10, (from5, IntKind.wrap .i64 (i6 + 1), l7)), h, (Weak.norm (m := 1) (Nat.le_of_ble_eq_true rfl) ⟨rfl, rfl, rfl, rfl, trivial⟩ rfl rfl rfl), Nat.lt_succ_self _⟩
    · replace h := bif_f hb11 h
      refine AW.exit ?_
      refine AW.seq ?_
      refine AW.seq ?_
      refine AW.reg hS [(4, .vec 0 (List.length l7)), (37, .pv (.bool (decide (256 < (l7.length : Int)))))] [.row 9 1 (List.map PV.str l7) true] ?_ ?_
      · exact dk
      refine AW.cond (b := decide (256 < (l7.length : Int))) rfl (fun hb22 => ?_) (fun hb22 => ?_)
      · replace h := bif_t hb22 h
        refine AW.seq ?_
        refine AW.reg hS [(2, .nils), (3, .pv (.int .i64 22))] [.row 9 1 (List.map PV.str l7) true] ?_ ?_
        · exact dk
        refine AW.ret ?_
        cases h
        exact fin
      · replace h := bif_f hb22 h
        refine AW.skip ?_
        refine AW.seq ?_
        refine AW.reg hS [(2, .vec 0 (List.length l7)), (3, .pv (.int .i64 0))] [.row 9 1 (List.map PV.str l7) true] ?_ ?_
        · exact dk
        refine AW.ret ?_
        cases h
        exact fin

set_option maxHeartbeats 4000000 in
theorem g_F27 {O : Orc} (hS : Sound env O) (hpf : O.pf = pfn) (c_F56 : C_F56 O) (c_F57 : C_F57 O) (c_F52 : C_F52 O) (c_F50 : C_F50 O) (l1 : List GEnv) (group2 : Int) (id3 : Int) (offset4 : Int) (data5 : Str) (r6 : List GEnv) (r7 : Int) (r8 : Int) (h : F27 l1 group2 id3 offset4 data5 = some (r6, r7, r8)) : Good env 27 [.pv (.slice (List.map GEnv.pv l1)), .pv (.int .i64 group2), .pv (.int .i64 id3), .pv (.int .i64 offset4), .pv (.str data5)] [] [.pv (.slice (List.map GEnv.pv r6)), .pv (.int .i64 r7), .pv (.int .i64 r8)] [] := by
  have pf_50 : O.pf 50 = true := by rw [hpf]; rfl
  have pf_52 : O.pf 52 = true := by rw [hpf]; rfl
  have pf_56 : O.pf 56 = true := by rw [hpf]; rfl
  have pf_57 : O.pf 57 = true := by rw [hpf]; rfl
  refine Good.start (fn := Tryz.f27) (N := 97) fn_27 rfl rfl (by simp) [] _ rfl rfl ?_
  rw [F27] at h
  refine AW.seq ?_
  refine AW.reg hS [(0, .pv (.slice (List.map GEnv.pv l1))), (1, .pv (.int .i64 group2)), (2, .pv (.int .i64 id3)), (3, .pv (.int .i64 offset4)), (4, .pv (.str data5))] [] ?_ ?_
  · exact dk
  refine AW.seq ?_
  replace h := obs h; obtain ⟨⟨r9, r10, r11, r12⟩, q13, h⟩ := h
  dsimp only at h
  have f14 := c_F56 l1 group2 id3 r9 r10 r11 r12 q13
  try dsimp only at f14
  refine AW.reg hS [(0, .pv (.slice (List.map GEnv.pv l1))), (3, .pv (.int .i64 offset4)), (4, .pv (.str data5)), (13, .pv (.int .i64 r9)), (14, .pv (.int .i64 r10)), (15, .pv (.str r11)), (16, .pv (.int .i64 r12))] [] ?_ ?_
  · exact dk1 (an pf_56 f14)
  refine AW.seq ?_
  refine AW.seq ?_
  refine AW.reg hS [(0, .pv (.slice (List.map GEnv.pv l1))), (3, .pv (.int .i64 offset4)), (4, .pv (.str data5)), (13, .pv (.int .i64 r9)), (14, .pv (.int .i64 r10)), (15, .pv (.str r11)), (16, .pv (.int .i64 r12)), (30, .pv (.bool (!decide (r12 = 0))))] [] ?_ ?_
  · exact dk
  refine AW.cond (b := !decide (r12 = 0)) rfl (fun hb15 => ?_) (fun hb15 => ?_)
  · replace h := bif_t hb15 h
    refine AW.seq ?_
    refine AW.reg hS [(10, .pv (.slice (List.map GEnv.pv l1))), (11, .pv (.int .i64 0)), (12, .pv (.int .i64 r12))] [] ?_ ?_
    · exact dk
    refine AW.ret ?_
    cases h
    exact fin
  · replace h := bif_f hb15 h
    refine AW.skip ?_
    refine AW.seq ?_
    refine AW.seq ?_
    refine AW.reg hS [(0, .pv (.slice (List.map GEnv.pv l1))), (3, .pv (.int .i64 offset4)), (4, .pv (.str data5)), (13, .pv (.int .i64 r9)), (14, .pv (.int .i64 r10)), (15, .pv (.str r11)), (34, .pv (.bool (decide (offset4 < 0))))] [] ?_ ?_
    · exact dk
    refine AW.cond (b := decide (offset4 < 0)) rfl (fun hb16 => ?_) (fun hb16 => ?_)
    · replace h := bif_t hb16 h
      refine AW.seq ?_
      refine AW.reg hS [(10, .pv (.slice (List.map GEnv.pv l1))), (11, .pv (.int .i64 0)), (12, .pv (.int .i64 1))] [] ?_ ?_
      · exact dk
      refine AW.ret ?_
      cases h
      exact fin
    · replace h := bif_f hb16 h
      refine AW.skip ?_
      refine AW.seq ?_
      refine AW.seq ?_
      refine AW.reg hS [(0, .pv (.slice (List.map GEnv.pv l1))), (3, .pv (.int .i64 offset4)), (4, .pv (.str data5)), (13, .pv (.int .i64 r9)), (14, .pv (.int .i64 r10)), (15, .pv (.str r11)), (37, .pv (.bool (decide (data5 = []))))] [] ?_ ?_
      · exact dk
      refine AW.cond (b := decide (data5 = [])) rfl (fun hb17 => ?_) (fun hb17 => ?_)
      · replace h := bif_t hb17 h
        refine AW.seq ?_
        refine AW.reg hS [(10, .pv (.slice (List.map GEnv.pv l1))), (11, .pv (.int .i64 0)), (12, .pv (.int .i64 0))] [] ?_ ?_
        · exact dk
        refine AW.ret ?_
        cases h
        exact fin
      · replace h := bif_f hb17 h
        refine AW.skip ?_
        refine AW.seq ?_
        refine AW.seq ?_
        refine AW.reg hS [(0, .pv (.slice (List.map GEnv.pv l1))), (3, .pv (.int .i64 offset4)), (4, .pv (.str data5)), (13, .pv (.int .i64 r9)), (14, .pv (.int .i64 r10)), (15, .pv (.str r11)), (47, .pv (.bool (decide (65536 < offset4) || decide (65536 < IntKind.wrap .i64 (offset4 + (data5.length : Int))))))] [] ?_ ?_
        · clear h
          exact dg
        refine AW.cond (b := (decide (65536 < offset4) || decide (65536 < IntKind.wrap .i64 (offset4 + (data5.length : Int))))) rfl (fun hb18 => ?_) (fun hb18 => ?_)
        · replace h := bif_t hb18 h
          refine AW.seq ?_
          refine AW.reg hS [(10, .pv (.slice (List.map GEnv.pv l1))), (11, .pv (.int .i64 0)), (12, .pv (.int .i64 4))] [] ?_ ?_
          · exact dk
          refine AW.ret ?_
          cases h
          exact fin
        · replace h := bif_f hb18 h
          refine AW.skip ?_
          refine AW.seq ?_
          replace h := obs h; obtain ⟨t19, q20, h⟩ := h
          have f21 := sslice_f q20
          have f21e := f21.2.2.2.2
          try simp only [Int.toNat_natCast, Int.toNat_zero, List.drop_zero] at f21e
          have f21l := f21.2.2.1
          try simp only [Int.toNat_natCast, Int.toNat_zero] at f21l
          replace h := obs h; obtain ⟨u22, q23, h⟩ := h
          have f24 := mkO_f q23
          have f24m := emakeSlice_int (H := []) (k1 := .i64) (k2 := .i64) T_82 T_5 (of_eq_true f24.1) (of_eq_true f24.2) (by decide)
          replace h := obs h; obtain ⟨s25, q26, h⟩ := h
          have f27 := catO_f q26
          try simp only [List.length_cons, List.length_nil, List.length_replicate, Nat.zero_add, Nat.reduceAdd, Nat.reduceLeDiff, Nat.add_zero, Nat.reduceMul] at f27
          replace h := obs h; obtain ⟨s28, q29, h⟩ := h
          have f30 := catO_f q29
          try simp only [List.length_cons, List.length_nil, List.length_replicate, Nat.zero_add, Nat.reduceAdd, Nat.reduceLeDiff, Nat.add_zero, Nat.reduceMul] at f30
          refine AW.dreg mixed hS (hpf ▸ (by kernel_rfl : orderOK pfn _ = true)) [(0, .pv (.slice (List.map GEnv.pv l1))), (4, .pv (.str data5)), (13, .pv (.int .i64 r9)), (14, .pv (.int .i64 r10)), (15, .pv (.str r11)), (17, .pv (.str s28))] [.row 5 1 (List.map (PV.int .u8) (List.replicate (Int.toNat (imax (IntKind.wrap .i64 (offset4 - (r11.length : Int))) 0)) 0)) false] ?_ ?_
          · simp -implicitDefEqProofs only [RUNS, qindex, Nat.reduceAdd, Nat.reduceLeDiff, Nat.reduceSub, reduceIte, Nat.reduceEqDiff, Nat.reduceLT, reduceCtorEq, Nat.reduceMul, Nat.reduceBEq, Int.reduceEq, if_true, if_false, eq_self, ne_eq, TYS, Int.toNat_natCast, Int.toNat_zero, f21.1, f21.2.1, f21l, f21.2.2.2.1, f21e, f24m, f27.1, f27.2, f30.1, f30.2, List.length_replicate, List.map_replicate, qconv2.eq_1, qbytes.eq_1, isU8.eq_1, bytesPV_zero] <;> (try simp only [List.length_take, List.length_drop, List.length_map])
          refine AW.seqJ (α := Str) (fun out31 => ⟨sl [(0, .pv (.slice (List.map GEnv.pv l1))), (4, .pv (.str data5)), (13, .pv (.int .i64 r9)), (14, .pv (.int .i64 r10)), (17, .pv (.str out31))], 97, [.row 5 1 (List.map (PV.int .u8) (List.replicate (Int.toNat (imax (IntKind.wrap .i64 (offset4 - (r11.length : Int))) 0)) 0)) false]⟩) (fun x => F27_j1 l1 r9 r10 data5 x = some (r6, r7, r8)) ?_ ?_
          · intro out31 h
            rw [F27_j1] at h
            try dsimp only at h
            show AW _ _ _ _ ⟨sl [(0, .pv (.slice (List.map GEnv.pv l1))), (4, .pv (.str data5)), (13, .pv (.int .i64 r9)), (14, .pv (.int .i64 r10)), (17, .pv (.str out31))], 97, [.row 5 1 (List.map (PV.int .u8) (List.replicate (Int.toNat (imax (IntKind.wrap .i64 (offset4 - (r11.length : Int))) 0)) 0)) false]⟩
            refine AW.seq ?_
            replace h := obs h; obtain ⟨⟨r32, r33⟩, q34, h⟩ := h
            dsimp only at h
            have f35 := c_F57 out31 r32 r33 q34
            try dsimp only at f35
            refine AW.reg hS [(0, .pv (.slice (List.map GEnv.pv l1))), (4, .pv (.str data5)), (13, .pv (.int .i64 r9)), (14, .pv (.int .i64 r10)), (18, .pv (.slice (List.map PV.str r32))), (19, .pv (.int .i64 r33))] [.row 5 1 (List.map (PV.int .u8) (List.replicate (Int.toNat (imax (IntKind.wrap .i64 (offset4 - (r11.length : Int))) 0)) 0)) false] ?_ ?_
            · exact dk1 (an pf_57 f35)
            refine AW.seq ?_
            refine AW.seq ?_
            refine AW.reg hS [(0, .pv (.slice (List.map GEnv.pv l1))), (4, .pv (.str data5)), (13, .pv (.int .i64 r9)), (14, .pv (.int .i64 r10)), (18, .pv (.slice (List.map PV.str r32))), (19, .pv (.int .i64 r33)), (82, .pv (.bool (!decide (r33 = 0))))] [.row 5 1 (List.map (PV.int .u8) (List.replicate (Int.toNat (imax (IntKind.wrap .i64 (offset4 - (r11.length : Int))) 0)) 0)) false] ?_ ?_
            · exact dk
            refine AW.cond (b := !decide (r33 = 0)) rfl (fun hb36 => ?_) (fun hb36 => ?_)
            · replace h := bif_t hb36 h
              refine AW.seq ?_
              refine AW.reg hS [(10, .pv (.slice (List.map GEnv.pv l1))), (11, .pv (.int .i64 0)), (12, .pv (.int .i64 r33))] [.row 5 1 (List.map (PV.int .u8) (List.replicate (Int.toNat (imax (IntKind.wrap .i64 (offset4 - (r11.length : Int))) 0)) 0)) false] ?_ ?_
              · exact dk
              refine AW.ret ?_
              cases h
              exact fin
            · replace h := bif_f hb36 h
              refine AW.skip ?_
              refine AW.seq ?_
              replace h := obs h; obtain ⟨u37, q38, h⟩ := h
              have f39 := lidx_f q38
              replace h := obs h; obtain ⟨r40, q41, h⟩ := h
              have f42 := c_F52 u37 r10 r32 r40 q41
              try dsimp only at f42
              replace h := obs h; obtain ⟨r43, q44, h⟩ := h
              have f45 := c_F50 l1 r9 r40 r43 q44
              try dsimp only at f45
              refine AW.reg hS [(10, .pv (.slice (List.map GEnv.pv r43))), (11, .pv (.int .i64 (data5.length : Int))), (12, .pv (.int .i64 0))] [.row 5 1 (List.map (PV.int .u8) (List.replicate (Int.toNat (imax (IntKind.wrap .i64 (offset4 - (r11.length : Int))) 0)) 0)) false] ?_ ?_
              · exact dk1 (an f39.1 (an f39.2.1 (an pf_52 (an f42 (an pf_50 f45)))))
              refine AW.ret ?_
              cases h
              exact fin
          refine AW.seq ?_
          refine AW.reg hS [(0, .pv (.slice (List.map GEnv.pv l1))), (4, .pv (.str data5)), (13, .pv (.int .i64 r9)), (14, .pv (.int .i64 r10)), (15, .pv (.str r11)), (17, .pv (.str s28)), (69, .pv (.bool (decide ((s28.length : Int) < (r11.length : Int)))))] [.row 5 1 (List.map (PV.int .u8) (List.replicate (Int.toNat (imax (IntKind.wrap .i64 (offset4 - (r11.length : Int))) 0)) 0)) false] ?_ ?_
          · exact dk
          refine AW.cond (b := decide ((s28.length : Int) < (r11.length : Int))) rfl (fun hb46 => ?_) (fun hb46 => ?_)
          · replace h := bif_t hb46 h
            replace h := obs h; obtain ⟨t47, q48, h⟩ := h
            have f49 := sslice_f q48
            have f49e := f49.2.2.2.2
            try simp only [Int.toNat_natCast, Int.toNat_zero, List.drop_zero] at f49e
            have f49l := f49.2.2.1
            try simp only [Int.toNat_natCast, Int.toNat_zero] at f49l
            replace h := obs h; obtain ⟨s50, q51, h⟩ := h
            have f52 := catO_f q51
            try simp only [List.length_cons, List.length_nil, List.length_replicate, Nat.zero_add, Nat.reduceAdd, Nat.reduceLeDiff, Nat.add_zero, Nat.reduceMul] at f52
            refine AW.reg hS [(0, .pv (.slice (List.map GEnv.pv l1))), (4, .pv (.str data5)), (13, .pv (.int .i64 r9)), (14, .pv (.int .i64 r10)), (17, .pv (.str s50))] [.row 5 1 (List.map (PV.int .u8) (List.replicate (Int.toNat (imax (IntKind.wrap .i64 (offset4 - (r11.length : Int))) 0)) 0)) false] ?_ ?_
            · exact dkt1 (an f49.1 (an f49.2.1 (an f49l (an f49.2.2.2.1 (an f49e (an f52.1 f52.2))))))
            exact ⟨s50, h, (Weak.norm (m := 1) (Nat.le_of_ble_eq_true rfl) ⟨rfl, rfl, rfl, rfl, rfl, trivial⟩ rfl rfl rfl)⟩
          · replace h := bif_f hb46 h
            refine AW.skip ?_
            exact ⟨s28, h, (Weak.norm (m := 1) (Nat.le_of_ble_eq_true rfl) ⟨rfl, rfl, rfl, rfl, rfl, trivial⟩ rfl rfl rfl)⟩

set_option maxHeartbeats 4000000 in
theorem g_F28 {O : Orc} (hS : Sound env O) (hpf : O.pf = pfn) (c_F32 : C_F32 O) (c_F42 : C_F42 O) (l1 : List GEnv) (group2 : Int) (id3 : Int) (r4 : List GEnv) (r5 : Int) (h : F28 l1 group2 id3 = some (r4, r5)) : Good env 28 [.pv (.slice (List.map GEnv.pv l1)), .pv (.int .i64 group2), .pv (.int .i64 id3)] [] [.pv (.slice (List.map GEnv.pv r4)), .pv (.int .i64 r5)] [] := by
  have pf_32 : O.pf 32 = false := by rw [hpf]; rfl
  have pf_42 : O.pf 42 = true := by rw [hpf]; rfl
  refine Good.start (fn := Tryz.f28) (N := 36) fn_28 rfl rfl (by simp) [] _ rfl rfl ?_
  rw [F28] at h
  refine AW.seq ?_
  refine AW.reg hS [(0, .pv (.slice (List.map GEnv.pv l1))), (1, .pv (.int .i64 group2)), (2, .pv (.int .i64 id3))] [] ?_ ?_
  · exact dk
  refine AW.seq ?_
  replace h := obs h; obtain ⟨⟨r6, m7⟩, q8, h⟩ := h
  dsimp only at h
  have f9 := c_F32 l1 r6 m7 q8
  try dsimp only at f9
  have e10 : ecall O [] 32 [.pv (.slice (List.map GEnv.pv l1))] = some (retAV [.vec 0 (List.length r6)], [.tree 34 3 2 37 3 m7 (List.map GEnv.pv r6)]) := ecall_eq rfl rfl rfl f9 rfl rfl rfl
  refine AW.reg hS [(0, .pv (.slice (List.map GEnv.pv l1))), (1, .pv (.int .i64 group2)), (2, .pv (.int .i64 id3)), (8, .vec 0 (List.length r6))] [.tree 34 3 2 37 3 m7 (List.map GEnv.pv r6)] ?_ ?_
  · exact dk1 (an pf_32 e10)
  refine AW.seq ?_
  replace h := obs h; obtain ⟨⟨r11, r12, r13⟩, q14, h⟩ := h
  dsimp only at h
  have f15 := c_F42 l1 group2 id3 r11 r12 r13 q14
  try dsimp only at f15
  refine AW.reg hS [(8, .vec 0 (List.length r6)), (9, .pv (.int .i64 r11)), (10, .pv (.int .i64 r12)), (11, .pv (.int .i64 r13))] [.tree 34 3 2 37 3 m7 (List.map GEnv.pv r6)] ?_ ?_
  · exact dk1 (an pf_42 f15)
  refine AW.seq ?_
  refine AW.seq ?_
  refine AW.reg hS [(8, .vec 0 (List.length r6)), (9, .pv (.int .i64 r11)), (10, .pv (.int .i64 r12)), (11, .pv (.int .i64 r13)), (23, .pv (.bool (!decide (r13 = 0))))] [.tree 34 3 2 37 3 m7 (List.map GEnv.pv r6)] ?_ ?_
  · exact dk
  refine AW.cond (b := !decide (r13 = 0)) rfl (fun hb16 => ?_) (fun hb16 => ?_)
  · replace h := bif_t hb16 h
    refine AW.seq ?_
    refine AW.reg hS [(6, .vec 0 (List.length r6)), (7, .pv (.int .i64 r13))] [.tree 34 3 2 37 3 m7 (List.map GEnv.pv r6)] ?_ ?_
    · exact dk
    refine AW.weak (Weak.treeRow 0 rfl) ?_
    refine AW.weak (σ' := ⟨sl [(6, .vec 0 (List.length r6)), (7, .pv (.int .i64 r13))], 36, [.row 34 3 (List.map GEnv.pv r6) false]⟩) (Weak.of_eq (Weak.slots (L := [(6, .vec 0 (List.length r6)), (7, .pv (.int .i64 r13))]) ⟨rfl, rfl, trivial⟩) (by first | rfl | (simp only [List.length_set, List.length_map]; rfl))) ?_
    refine AW.weak (Weak.freeze 0 rfl) ?_
    refine AW.weak (σ' := ⟨sl [(6, .vec 0 (List.length r6)), (7, .pv (.int .i64 r13))], 36, [.row 34 3 (List.map GEnv.pv r6) true]⟩) (Weak.slots ⟨rfl, rfl, trivial⟩) ?_
    refine AW.ret ?_
    cases h
    exact fin
  · replace h := bif_f hb16 h
    refine AW.skip ?_
    refine AW.seq ?_
    replace h := obs h; obtain ⟨u17, q18, h⟩ := h
    have f19 := lidx_f q18
    replace h := obs h; obtain ⟨_, hoq12, h⟩ := h
    have hop12 := ltO_f hoq12
    refine AW.weak (Weak.open 0 (Int.toNat r11) (ys := List.map Var.pv u17.vars_) (cs := [.int .i64 u17.id_, .int .i64 u17.next_, .slice (List.map Var.pv u17.vars_)]) rfl hop12 (by rw [List.getElem?_map, f19.2.1]; rfl) rfl) ?_
    refine AW.weak (σ' := ⟨sl [(8, .vec 0 (List.length r6)), (9, .pv (.int .i64 r11)), (10, .pv (.int .i64 r12)), (11, .pv (.int .i64 r13)), (23, .pv (.bool (!decide (r13 = 0))))], 36, [.hrow 34 3 (List.map GEnv.pv r6) (Int.toNat r11) 2 1 (List.length u17.vars_), .row 37 3 (List.map Var.pv u17.vars_) false]⟩) (Weak.of_eq (Weak.slots (L := [(8, .vec 0 (List.length r6)), (9, .pv (.int .i64 r11)), (10, .pv (.int .i64 r12)), (11, .pv (.int .i64 r13)), (23, .pv (.bool (!decide (r13 = 0))))]) ⟨rfl, rfl, rfl, rfl, rfl, trivial⟩) (by first | rfl | (simp only [List.length_set, List.length_map]; rfl))) ?_
    replace h := obs h; obtain ⟨u20, q21, h⟩ := h
    have f22 := lidx_f q21
    refine AW.reg hS [(8, .vec 0 (List.length r6))] [.hrow 34 3 (List.map GEnv.pv r6) (Int.toNat r11) 2 1 (List.length u17.vars_), .row 37 3 (List.map Var.pv (List.set u17.vars_ (Int.toNat r12) (Var.mk u20.id_ u20.name_ [[]]))) false] ?_ ?_
    · exact dk1 (an f19.1 (an f19.2.1 (an f19.2.2 (an f22.1 (an f22.2.1 f22.2.2)))))
    refine AW.seq ?_
    refine AW.reg hS [(6, .vec 0 (List.length r6)), (7, .pv (.int .i64 0))] [.hrow 34 3 (List.map GEnv.pv r6) (Int.toNat r11) 2 1 (List.length u17.vars_), .row 37 3 (List.map Var.pv (List.set u17.vars_ (Int.toNat r12) (Var.mk u20.id_ u20.name_ [[]]))) false] ?_ ?_
    · exact dk
    refine AW.weak (Weak.freeze 1 rfl) ?_
    refine AW.weak (σ' := ⟨sl [(6, .vec 0 (List.length r6)), (7, .pv (.int .i64 0))], 36, [.hrow 34 3 (List.map GEnv.pv r6) (Int.toNat r11) 2 1 (List.length u17.vars_), .row 37 3 (List.map Var.pv (List.set u17.vars_ (Int.toNat r12) (Var.mk u20.id_ u20.name_ [[]]))) true]⟩) (Weak.slots ⟨rfl, rfl, trivial⟩) ?_
    refine AW.weak (Weak.close 0 (cs := [.int .i64 u17.id_, .int .i64 u17.next_, .slice (List.map Var.pv u17.vars_)]) (xs' := List.map GEnv.pv (List.set r6 (Int.toNat r11) (GEnv.mk u17.id_ u17.next_ (List.set u17.vars_ (Int.toNat r12) (Var.mk u20.id_ u20.name_ [[]]))))) rfl rfl (by simp only [List.length_map, List.length_set]) (by rw [List.getElem?_map, f19.2.1]; rfl) (by simp only [List.map_set, List.set_cons_succ, List.set_cons_zero, P23_eq, Var.pv_eq, P32_eq, GEnv.pv_eq, GOp.pv_eq])) ?_
    refine AW.weak (σ' := ⟨sl [(6, .vec 0 (List.length (List.set r6 (Int.toNat r11) (GEnv.mk u17.id_ u17.next_ (List.set u17.vars_ (Int.toNat r12) (Var.mk u20.id_ u20.name_ [[]])))))), (7, .pv (.int .i64 0))], 36, [.row 34 3 (List.map GEnv.pv (List.set r6 (Int.toNat r11) (GEnv.mk u17.id_ u17.next_ (List.set u17.vars_ (Int.toNat r12) (Var.mk u20.id_ u20.name_ [[]]))))) false, .row 37 3 (List.map Var.pv (List.set u17.vars_ (Int.toNat r12) (Var.mk u20.id_ u20.name_ [[]]))) true]⟩) (Weak.of_eq (Weak.slots (L := [(6, .vec 0 (List.length r6)), (7, .pv (.int .i64 0))]) ⟨rfl, rfl, trivial⟩) (by first | rfl | (simp only [List.length_set, List.length_map]; rfl))) ?_
    refine AW.weak (Weak.freeze 0 rfl) ?_
    refine AW.weak (σ' := ⟨sl [(6, .vec 0 (List.length (List.set r6 (Int.toNat r11) (GEnv.mk u17.id_ u17.next_ (List.set u17.vars_ (Int.toNat r12) (Var.mk u20.id_ u20.name_ [[]])))))), (7, .pv (.int .i64 0))], 36, [.row 34 3 (List.map GEnv.pv (List.set r6 (Int.toNat r11) (GEnv.mk u17.id_ u17.next_ (List.set u17.vars_ (Int.toNat r12) (Var.mk u20.id_ u20.name_ [[]]))))) true, .row 37 3 (List.map Var.pv (List.set u17.vars_ (Int.toNat r12) (Var.mk u20.id_ u20.name_ [[]]))) true]⟩) (Weak.slots ⟨rfl, rfl, trivial⟩) ?_
    refine AW.ret ?_
    cases h
    exact fin

set_option maxHeartbeats 4000000 in
theorem g_F29 {O : Orc} (hS : Sound env O) (hpf : O.pf = pfn) (c_F56 : C_F56 O) (c_F52 : C_F52 O) (c_F50 : C_F50 O) (l1 : List GEnv) (group2 : Int) (id3 : Int) (r4 : List GEnv) (r5 : Int) (h : F29 l1 group2 id3 = some (r4, r5)) : Good env 29 [.pv (.slice (List.map GEnv.pv l1)), .pv (.int .i64 group2), .pv (.int .i64 id3)] [] [.pv (.slice (List.map GEnv.pv r4)), .pv (.int .i64 r5)] [] := by
  have pf_50 : O.pf 50 = true := by rw [hpf]; rfl
  have pf_52 : O.pf 52 = true := by rw [hpf]; rfl
  have pf_56 : O.pf 56 = true := by rw [hpf]; rfl
  refine Good.start (fn := Tryz.f29) (N := 35) fn_29 rfl rfl (by simp) [] _ rfl rfl ?_
  rw [F29] at h
  refine AW.seq ?_
  refine AW.reg hS [(0, .pv (.slice (List.map GEnv.pv l1))), (1, .pv (.int .i64 group2)), (2, .pv (.int .i64 id3))] [] ?_ ?_
  · exact dk
  refine AW.seq ?_
  replace h := obs h; obtain ⟨⟨r6, r7, r8, r9⟩, q10, h⟩ := h
  dsimp only at h
  have f11 := c_F56 l1 group2 id3 r6 r7 r8 r9 q10
  try dsimp only at f11
  refine AW.reg hS [(0, .pv (.slice (List.map GEnv.pv l1))), (8, .pv (.int .i64 r6)), (9, .pv (.int .i64 r7)), (11, .pv (.int .i64 r9))] [] ?_ ?_
  · exact dk1 (an pf_56 f11)
  refine AW.seq ?_
  refine AW.seq ?_
  refine AW.reg hS [(0, .pv (.slice (List.map GEnv.pv l1))), (8, .pv (.int .i64 r6)), (9, .pv (.int .i64 r7)), (11, .pv (.int .i64 r9)), (22, .pv (.bool (!decide (r9 = 0))))] [] ?_ ?_
  · exact dk
  refine AW.cond (b := !decide (r9 = 0)) rfl (fun hb12 => ?_) (fun hb12 => ?_)
  · replace h := bif_t hb12 h
    refine AW.seq ?_
    refine AW.reg hS [(6, .pv (.slice (List.map GEnv.pv l1))), (7, .pv (.int .i64 r9))] [] ?_ ?_
    · exact dk
    refine AW.ret ?_
    cases h
    exact fin
  · replace h := bif_f hb12 h
    refine AW.skip ?_
    refine AW.seq ?_
    replace h := obs h; obtain ⟨u13, q14, h⟩ := h
    have f15 := lidx_f q14
    replace h := obs h; obtain ⟨r16, q17, h⟩ := h
    have f18 := c_F52 u13 r7 [[]] r16 q17
    try dsimp only at f18
    try simp only [List.map_cons, List.map_nil, P23_eq, Var.pv_eq, P32_eq, GEnv.pv_eq, GOp.pv_eq] at f18
    replace h := obs h; obtain ⟨r19, q20, h⟩ := h
    have f21 := c_F50 l1 r6 r16 r19 q20
    try dsimp only at f21
    refine AW.reg hS [(6, .pv (.slice (List.map GEnv.pv r19))), (7, .pv (.int .i64 0))] [] ?_ ?_
    · exact dk1 (an f15.1 (an f15.2.1 (an pf_52 (an f18 (an pf_50 f21)))))
    refine AW.ret ?_
    cases h
    exact fin

set_option maxHeartbeats 4000000 in
theorem g_F30 {O : Orc} (hS : Sound env O) (hpf : O.pf = pfn) (c_F32 : C_F32 O) (c_F58 : C_F58 O) (c_L_DeleteV : C_L_DeleteV O) (l1 : List GEnv) (group2 : Int) (id3 : Int) (r4 : List GEnv) (r5 : Int) (h : F30 l1 group2 id3 = some (r4, r5)) : Good env 30 [.pv (.slice (List.map GEnv.pv l1)), .pv (.int .i64 group2), .pv (.int .i64 id3)] [] [.pv (.slice (List.map GEnv.pv r4)), .pv (.int .i64 r5)] [] := by
  have pf_32 : O.pf 32 = false := by rw [hpf]; rfl
  have pf_38 : O.pf 38 = false := by rw [hpf]; rfl
  have pf_58 : O.pf 58 = true := by rw [hpf]; rfl
  refine Good.start (fn := Tryz.f30) (N := 45) fn_30 rfl rfl (by simp) [] _ rfl rfl ?_
  rw [F30] at h
  refine AW.seq ?_
  refine AW.reg hS [(0, .pv (.slice (List.map GEnv.pv l1))), (1, .pv (.int .i64 group2)), (2, .pv (.int .i64 id3))] [] ?_ ?_
  · exact dk
  refine AW.seq ?_
  replace h := obs h; obtain ⟨⟨r6, m7⟩, q8, h⟩ := h
  dsimp only at h
  have f9 := c_F32 l1 r6 m7 q8
  try dsimp only at f9
  have e10 : ecall O [] 32 [.pv (.slice (List.map GEnv.pv l1))] = some (retAV [.vec 0 (List.length r6)], [.tree 34 3 2 37 3 m7 (List.map GEnv.pv r6)]) := ecall_eq rfl rfl rfl f9 rfl rfl rfl
  refine AW.reg hS [(0, .pv (.slice (List.map GEnv.pv l1))), (1, .pv (.int .i64 group2)), (2, .pv (.int .i64 id3)), (8, .vec 0 (List.length r6))] [.tree 34 3 2 37 3 m7 (List.map GEnv.pv r6)] ?_ ?_
  · exact dk1 (an pf_32 e10)
  refine AW.seq ?_
  replace h := obs h; obtain ⟨⟨r11, r12, r13⟩, q14, h⟩ := h
  dsimp only at h
  have f15 := c_F58 l1 group2 id3 r11 r12 r13 q14
  try dsimp only at f15
  refine AW.reg hS [(8, .vec 0 (List.length r6)), (9, .pv (.int .i64 r11)), (10, .pv (.int .i64 r12)), (11, .pv (.int .i64 r13))] [.tree 34 3 2 37 3 m7 (List.map GEnv.pv r6)] ?_ ?_
  · exact dk1 (an pf_58 f15)
  refine AW.seq ?_
  refine AW.block ?_
  refine AW.seq ?_
  refine AW.reg hS [(8, .vec 0 (List.length r6)), (9, .pv (.int .i64 r11)), (10, .pv (.int .i64 r12)), (11, .pv (.int .i64 r13)), (22, .pv (.bool (!decide (r13 = 0))))] [.tree 34 3 2 37 3 m7 (List.map GEnv.pv r6)] ?_ ?_
  · exact dk
  refine AW.cond (b := !decide (r13 = 0)) rfl (fun hb16 => ?_) (fun hb16 => ?_)
  · replace h := bif_t hb16 h
    refine AW.seq ?_
    refine AW.reg hS [(6, .vec 0 (List.length r6)), (7, .pv (.int .i64 r13))] [.tree 34 3 2 37 3 m7 (List.map GEnv.pv r6)] ?_ ?_
    · exact dk
    refine AW.weak (Weak.treeRow 0 rfl) ?_
    refine AW.weak (σ' := ⟨sl [(6, .vec 0 (List.length r6)), (7, .pv (.int .i64 r13))], 45, [.row 34 3 (List.map GEnv.pv r6) false]⟩) (Weak.of_eq (Weak.slots (L := [(6, .vec 0 (List.length r6)), (7, .pv (.int .i64 r13))]) ⟨rfl, rfl, trivial⟩) (by first | rfl | (simp only [List.length_set, List.length_map]; rfl))) ?_
    refine AW.weak (Weak.freeze 0 rfl) ?_
    refine AW.weak (σ' := ⟨sl [(6, .vec 0 (List.length r6)), (7, .pv (.int .i64 r13))], 45, [.row 34 3 (List.map GEnv.pv r6) true]⟩) (Weak.slots ⟨rfl, rfl, trivial⟩) ?_
    refine AW.ret ?_
    cases h
    exact fin
  · replace h := bif_f hb16 h
    refine AW.seq ?_
    refine AW.reg hS [(8, .vec 0 (List.length r6)), (9, .pv (.int .i64 r11)), (10, .pv (.int .i64 r12)), (27, .pv (.bool (decide (r12 < 0))))] [.tree 34 3 2 37 3 m7 (List.map GEnv.pv r6)] ?_ ?_
    · exact dk
    refine AW.cond (b := decide (r12 < 0)) rfl (fun hb17 => ?_) (fun hb17 => ?_)
    · replace h := bif_t hb17 h
      refine AW.seq ?_
      refine AW.reg hS [(6, .vec 0 (List.length r6)), (7, .pv (.int .i64 11))] [.tree 34 3 2 37 3 m7 (List.map GEnv.pv r6)] ?_ ?_
      · exact dk
      refine AW.weak (Weak.treeRow 0 rfl) ?_
      refine AW.weak (σ' := ⟨sl [(6, .vec 0 (List.length r6)), (7, .pv (.int .i64 11))], 45, [.row 34 3 (List.map GEnv.pv r6) false]⟩) (Weak.of_eq (Weak.slots (L := [(6, .vec 0 (List.length r6)), (7, .pv (.int .i64 11))]) ⟨rfl, rfl, trivial⟩) (by first | rfl | (simp only [List.length_set, List.length_map]; rfl))) ?_
      refine AW.weak (Weak.freeze 0 rfl) ?_
      refine AW.weak (σ' := ⟨sl [(6, .vec 0 (List.length r6)), (7, .pv (.int .i64 11))], 45, [.row 34 3 (List.map GEnv.pv r6) true]⟩) (Weak.slots ⟨rfl, rfl, trivial⟩) ?_
      refine AW.ret ?_
      cases h
      exact fin
    · replace h := bif_f hb17 h
      refine AW.skip ?_
      refine AW.seq ?_
      replace h := obs h; obtain ⟨u18, q19, h⟩ := h
      have f20 := lidx_f q19
      replace h := obs h; obtain ⟨_, hoq14, h⟩ := h
      have hop14 := ltO_f hoq14
      refine AW.weak (Weak.open 0 (Int.toNat r11) (ys := List.map Var.pv u18.vars_) (cs := [.int .i64 u18.id_, .int .i64 u18.next_, .slice (List.map Var.pv u18.vars_)]) rfl hop14 (by rw [List.getElem?_map, f20.2.1]; rfl) rfl) ?_
      refine AW.weak (σ' := ⟨sl [(8, .vec 0 (List.length r6)), (9, .pv (.int .i64 r11)), (10, .pv (.int .i64 r12)), (27, .pv (.bool (decide (r12 < 0))))], 45, [.hrow 34 3 (List.map GEnv.pv r6) (Int.toNat r11) 2 1 (List.length u18.vars_), .row 37 3 (List.map Var.pv u18.vars_) false]⟩) (Weak.of_eq (Weak.slots (L := [(8, .vec 0 (List.length r6)), (9, .pv (.int .i64 r11)), (10, .pv (.int .i64 r12)), (27, .pv (.bool (decide (r12 < 0))))]) ⟨rfl, rfl, rfl, rfl, trivial⟩) (by first | rfl | (simp only [List.length_set, List.length_map]; rfl))) ?_
      replace h := obs h; obtain ⟨⟨r21, y22⟩, q23, h⟩ := h
      dsimp only at h
      have f24 := c_L_DeleteV u18.vars_ r12 (IntKind.wrap .i64 (r12 + 1)) r21 y22 q23
      try dsimp only at f24
      have e25 : ecall O [.hrow 34 3 (List.map GEnv.pv r6) (Int.toNat r11) 2 1 (List.length u18.vars_), .row 37 3 (List.map Var.pv u18.vars_) false] 38 [.vec 1 (List.length u18.vars_), .pv (.int .i64 r12), .pv (.int .i64 (IntKind.wrap .i64 (r12 + 1)))] = some (retAV [.pv (.slice (List.map Var.pv r21))], [.hrow 34 3 (List.map GEnv.pv r6) (Int.toNat r11) 2 1 (List.length u18.vars_), .row 37 3 (List.map Var.pv y22) true]) := ecall_eq rfl rfl rfl f24 rfl rfl rfl
      refine AW.reg hS [(8, .vec 0 (List.length (List.set r6 (Int.toNat r11) (GEnv.mk u18.id_ u18.next_ r21))))] [.row 34 3 (List.map GEnv.pv (List.set r6 (Int.toNat r11) (GEnv.mk u18.id_ u18.next_ r21))) false, .row 37 3 (List.map Var.pv y22) true] ?_ ?_
      · simp -implicitDefEqProofs only [RUNS, qindex, Nat.reduceAdd, Nat.reduceLeDiff, Nat.reduceSub, reduceIte, Nat.reduceEqDiff, Nat.reduceLT, reduceCtorEq, Nat.reduceMul, Nat.reduceBEq, Int.reduceEq, if_true, if_false, eq_self, ne_eq, TYS, f20.1, f20.2.1, f20.2.2, pf_38, e25, storeHole.eq_1, Nat.reduceLeDiff] <;> (try simp only [List.length_take, List.length_drop, List.length_map])
      refine AW.seq ?_
      refine AW.reg hS [(6, .vec 0 (List.length (List.set r6 (Int.toNat r11) (GEnv.mk u18.id_ u18.next_ r21)))), (7, .pv (.int .i64 0))] [.row 34 3 (List.map GEnv.pv (List.set r6 (Int.toNat r11) (GEnv.mk u18.id_ u18.next_ r21))) false, .row 37 3 (List.map Var.pv y22) true] ?_ ?_
      · exact dk
      refine AW.weak (Weak.freeze 0 rfl) ?_
      refine AW.weak (σ' := ⟨sl [(6, .vec 0 (List.length (List.set r6 (Int.toNat r11) (GEnv.mk u18.id_ u18.next_ r21)))), (7, .pv (.int .i64 0))], 45, [.row 34 3 (List.map GEnv.pv (List.set r6 (Int.toNat r11) (GEnv.mk u18.id_ u18.next_ r21))) true, .row 37 3 (List.map Var.pv y22) true]⟩) (Weak.slots ⟨rfl, rfl, trivial⟩) ?_
      refine AW.ret ?_
      cases h
      exact fin

set_option maxHeartbeats 4000000 in
theorem g_F31 {O : Orc} (hS : Sound env O) (hpf : O.pf = pfn) (c_F55 : C_F55 O) (c_F51 : C_F51 O) (c_F50 : C_F50 O) (l1 : List GEnv) (group2 : Int) (id3 : Int) (r4 : List GEnv) (r5 : Int) (h : F31 l1 group2 id3 = some (r4, r5)) : Good env 31 [.pv (.slice (List.map GEnv.pv l1)), .pv (.int .i64 group2), .pv (.int .i64 id3)] [] [.pv (.slice (List.map GEnv.pv r4)), .pv (.int .i64 r5)] [] := by
  have pf_50 : O.pf 50 = true := by rw [hpf]; rfl
  have pf_51 : O.pf 51 = true := by rw [hpf]; rfl
  have pf_55 : O.pf 55 = true := by rw [hpf]; rfl
  refine Good.start (fn := Tryz.f31) (N := 34) fn_31 rfl rfl (by simp) [] _ rfl rfl ?_
  rw [F31] at h
  refine AW.seq ?_
  refine AW.reg hS [(0, .pv (.slice (List.map GEnv.pv l1))), (1, .pv (.int .i64 group2)), (2, .pv (.int .i64 id3))] [] ?_ ?_
  · exact dk
  refine AW.seq ?_
  replace h := obs h; obtain ⟨⟨r6, r7, r8⟩, q9, h⟩ := h
  dsimp only at h
  have f10 := c_F55 l1 group2 id3 r6 r7 r8 q9
  try dsimp only at f10
  refine AW.reg hS [(0, .pv (.slice (List.map GEnv.pv l1))), (8, .pv (.int .i64 r6)), (9, .pv (.int .i64 r7)), (10, .pv (.bool r8))] [] ?_ ?_
  · exact dk1 (an pf_55 f10)
  refine AW.seq ?_
  refine AW.seq ?_
  refine AW.reg hS [(0, .pv (.slice (List.map GEnv.pv l1))), (8, .pv (.int .i64 r6)), (9, .pv (.int .i64 r7)), (20, .pv (.bool (!r8)))] [] ?_ ?_
  · exact dk
  refine AW.cond (b := !r8) rfl (fun hb11 => ?_) (fun hb11 => ?_)
  · replace h := bif_t hb11 h
    refine AW.seq ?_
    refine AW.reg hS [(6, .pv (.slice (List.map GEnv.pv l1))), (7, .pv (.int .i64 8))] [] ?_ ?_
    · exact dk
    refine AW.ret ?_
    cases h
    exact fin
  · replace h := bif_f hb11 h
    refine AW.skip ?_
    refine AW.seq ?_
    refine AW.seq ?_
    refine AW.reg hS [(0, .pv (.slice (List.map GEnv.pv l1))), (8, .pv (.int .i64 r6)), (9, .pv (.int .i64 r7)), (23, .pv (.bool (decide (r7 < 0))))] [] ?_ ?_
    · exact dk
    refine AW.cond (b := decide (r7 < 0)) rfl (fun hb12 => ?_) (fun hb12 => ?_)
    · replace h := bif_t hb12 h
      refine AW.seq ?_
      refine AW.reg hS [(6, .pv (.slice (List.map GEnv.pv l1))), (7, .pv (.int .i64 11))] [] ?_ ?_
      · exact dk
      refine AW.ret ?_
      cases h
      exact fin
    · replace h := bif_f hb12 h
      refine AW.skip ?_
      refine AW.seq ?_
      replace h := obs h; obtain ⟨u13, q14, h⟩ := h
      have f15 := lidx_f q14
      replace h := obs h; obtain ⟨r16, q17, h⟩ := h
      have f18 := c_F51 u13 r7 r16 q17
      try dsimp only at f18
      replace h := obs h; obtain ⟨r19, q20, h⟩ := h
      have f21 := c_F50 l1 r6 r16 r19 q20
      try dsimp only at f21
      refine AW.reg hS [(6, .pv (.slice (List.map GEnv.pv r19))), (7, .pv (.int .i64 0))] [] ?_ ?_
      · exact dk1 (an f15.1 (an f15.2.1 (an pf_51 (an f18 (an pf_50 f21)))))
      refine AW.ret ?_
      cases h
      exact fin

set_option maxHeartbeats 4000000 in
theorem g_F8 {O : Orc} (hS : Sound env O) (hpf : O.pf = pfn) (c_F14 : C_F14 O) (c_F22 : C_F22 O) (c_F23 : C_F23 O) (c_F13 : C_F13 O) (c_F24 : C_F24 O) (c_F25 : C_F25 O) (c_F26 : C_F26 O) (c_F16 : C_F16 O) (c_F27 : C_F27 O) (c_F28 : C_F28 O) (c_F29 : C_F29 O) (c_F30 : C_F30 O) (c_F31 : C_F31 O) (l1 : List GEnv) (o2 : GOp) (r3 : List GEnv) (r4 : Bool) (h : F8 l1 o2 = some (r3, r4)) : Good env 8 [.pv (.slice (List.map GEnv.pv l1)), .pv (.agg [.int .i64 o2.kind_, .int .i64 o2.group_, .int .i64 o2.to_, .int .i64 o2.id_, .str o2.name_, .slice (List.map PV.str o2.values_), .int .i64 o2.offset_, .str o2.data_])] [] [.pv (.slice (List.map GEnv.pv r3)), .pv (.bool r4)] [] := by
  have pf_13 : O.pf 13 = true := by rw [hpf]; rfl
  have pf_14 : O.pf 14 = true := by rw [hpf]; rfl
  have pf_16 : O.pf 16 = true := by rw [hpf]; rfl
  have pf_22 : O.pf 22 = true := by rw [hpf]; rfl
  have pf_23 : O.pf 23 = true := by rw [hpf]; rfl
  have pf_24 : O.pf 24 = true := by rw [hpf]; rfl
  have pf_25 : O.pf 25 = true := by rw [hpf]; rfl
  have pf_26 : O.pf 26 = true := by rw [hpf]; rfl
  have pf_27 : O.pf 27 = true := by rw [hpf]; rfl
  have pf_28 : O.pf 28 = true := by rw [hpf]; rfl
  have pf_29 : O.pf 29 = true := by rw [hpf]; rfl
  have pf_30 : O.pf 30 = true := by rw [hpf]; rfl
  have pf_31 : O.pf 31 = true := by rw [hpf]; rfl
  refine Good.start (fn := Tryz.f8) (N := 238) fn_8 rfl rfl (by simp) [] _ rfl rfl ?_
  rw [F8] at h
  refine AW.seq ?_
  refine AW.reg hS [(0, .pv (.slice (List.map GEnv.pv l1))), (3, .ref 0 0)] [.var [.pv (.int .i64 o2.kind_), .pv (.int .i64 o2.group_), .pv (.int .i64 o2.to_), .pv (.int .i64 o2.id_), .pv (.str o2.name_), .pv (.slice (List.map PV.str o2.values_)), .pv (.int .i64 o2.offset_), .pv (.str o2.data_)]] ?_ ?_
  · exact dk
  refine AW.seq ?_
  refine AW.seq ?_
  refine AW.reg hS [(0, .pv (.slice (List.map GEnv.pv l1))), (3, .ref 0 0), (35, .pv (.int .i64 o2.kind_))] [.var [.pv (.int .i64 o2.kind_), .pv (.int .i64 o2.group_), .pv (.int .i64 o2.to_), .pv (.int .i64 o2.id_), .pv (.str o2.name_), .pv (.slice (List.map PV.str o2.values_)), .pv (.int .i64 o2.offset_), .pv (.str o2.data_)]] ?_ ?_
  · exact dk
  refine AW.block ?_
  refine AW.seq ?_
  refine AW.reg hS [(0, .pv (.slice (List.map GEnv.pv l1))), (3, .ref 0 0), (35, .pv (.int .i64 o2.kind_)), (36, .pv (.bool (decide (o2.kind_ = 0))))] [.var [.pv (.int .i64 o2.kind_), .pv (.int .i64 o2.group_), .pv (.int .i64 o2.to_), .pv (.int .i64 o2.id_), .pv (.str o2.name_), .pv (.slice (List.map PV.str o2.values_)), .pv (.int .i64 o2.offset_), .pv (.str o2.data_)]] ?_ ?_
  · exact dk
  refine AW.cond (b := decide (o2.kind_ = 0)) rfl (fun hb5 => ?_) (fun hb5 => ?_)
  · replace h := bif_t hb5 h
    refine AW.seq ?_
    replace h := obs h; obtain ⟨⟨r6, r7⟩, q8, h⟩ := h
    dsimp only at h
    have f9 := c_F14 l1 o2.group_ o2.name_ o2.values_ r6 r7 q8
    try dsimp only at f9
    refine AW.reg hS [(0, .pv (.slice (List.map GEnv.pv l1))), (3, .ref 0 0), (6, .pv (.slice (List.map GEnv.pv r6))), (7, .pv (.int .i64 r7))] [.var [.pv (.int .i64 o2.kind_), .pv (.int .i64 o2.group_), .pv (.int .i64 o2.to_), .pv (.int .i64 o2.id_), .pv (.str o2.name_), .pv (.slice (List.map PV.str o2.values_)), .pv (.int .i64 o2.offset_), .pv (.str o2.data_)]] ?_ ?_
    · exact dk1 (an pf_14 f9)
    refine AW.seq ?_
    replace h := obs h; obtain ⟨⟨r10, r11⟩, q12, h⟩ := h
    dsimp only at h
    have f13 := c_F22 l1 o2.group_ o2.name_ o2.values_ r10 r11 q12
    try dsimp only at f13
    refine AW.reg hS [(6, .pv (.slice (List.map GEnv.pv r6))), (7, .pv (.int .i64 r7)), (8, .pv (.slice (List.map GEnv.pv r10))), (9, .pv (.int .i64 r11))] [.var [.pv (.int .i64 o2.kind_), .pv (.int .i64 o2.group_), .pv (.int .i64 o2.to_), .pv (.int .i64 o2.id_), .pv (.str o2.name_), .pv (.slice (List.map PV.str o2.values_)), .pv (.int .i64 o2.offset_), .pv (.str o2.data_)]] ?_ ?_
    · exact dk1 (an pf_22 f13)
    refine AW.seq ?_
    replace h := obs h; obtain ⟨r14, q15, h⟩ := h
    have f16 := c_F23 r6 r10 r14 q15
    try dsimp only at f16
    refine AW.reg hS [(4, .pv (.slice (List.map GEnv.pv r6))), (5, .pv (.bool (r14 && decide (r7 = r11))))] [.var [.pv (.int .i64 o2.kind_), .pv (.int .i64 o2.group_), .pv (.int .i64 o2.to_), .pv (.int .i64 o2.id_), .pv (.str o2.name_), .pv (.slice (List.map PV.str o2.values_)), .pv (.int .i64 o2.offset_), .pv (.str o2.data_)]] ?_ ?_
    · clear h
      exact dg1 (an pf_23 f16)
    refine AW.ret ?_
    cases h
    exact fin
  · replace h := bif_f hb5 h
    refine AW.seq ?_
    refine AW.reg hS [(0, .pv (.slice (List.map GEnv.pv l1))), (3, .ref 0 0), (35, .pv (.int .i64 o2.kind_)), (69, .pv (.bool (decide (o2.kind_ = 1))))] [.var [.pv (.int .i64 o2.kind_), .pv (.int .i64 o2.group_), .pv (.int .i64 o2.to_), .pv (.int .i64 o2.id_), .pv (.str o2.name_), .pv (.slice (List.map PV.str o2.values_)), .pv (.int .i64 o2.offset_), .pv (.str o2.data_)]] ?_ ?_
    · exact dk
    refine AW.cond (b := decide (o2.kind_ = 1)) rfl (fun hb17 => ?_) (fun hb17 => ?_)
    · replace h := bif_t hb17 h
      refine AW.seq ?_
      replace h := obs h; obtain ⟨⟨r18, r19⟩, q20, h⟩ := h
      dsimp only at h
      have f21 := c_F13 l1 o2.group_ o2.to_ r18 r19 q20
      try dsimp only at f21
      refine AW.reg hS [(0, .pv (.slice (List.map GEnv.pv l1))), (3, .ref 0 0), (10, .pv (.slice (List.map GEnv.pv r18))), (11, .pv (.int .i64 r19))] [.var [.pv (.int .i64 o2.kind_), .pv (.int .i64 o2.group_), .pv (.int .i64 o2.to_), .pv (.int .i64 o2.id_), .pv (.str o2.name_), .pv (.slice (List.map PV.str o2.values_)), .pv (.int .i64 o2.offset_), .pv (.str o2.data_)]] ?_ ?_
      · exact dk1 (an pf_13 f21)
      refine AW.seq ?_
      replace h := obs h; obtain ⟨⟨r22, r23⟩, q24, h⟩ := h
      dsimp only at h
      have f25 := c_F24 l1 o2.group_ o2.to_ r22 r23 q24
      try dsimp only at f25
      refine AW.reg hS [(10, .pv (.slice (List.map GEnv.pv r18))), (11, .pv (.int .i64 r19)), (12, .pv (.slice (List.map GEnv.pv r22))), (13, .pv (.int .i64 r23))] [.var [.pv (.int .i64 o2.kind_), .pv (.int .i64 o2.group_), .pv (.int .i64 o2.to_), .pv (.int .i64 o2.id_), .pv (.str o2.name_), .pv (.slice (List.map PV.str o2.values_)), .pv (.int .i64 o2.offset_), .pv (.str o2.data_)]] ?_ ?_
      · exact dk1 (an pf_24 f25)
      refine AW.seq ?_
      replace h := obs h; obtain ⟨r26, q27, h⟩ := h
      have f28 := c_F23 r18 r22 r26 q27
      try dsimp only at f28
      refine AW.reg hS [(4, .pv (.slice (List.map GEnv.pv r18))), (5, .pv (.bool (r26 && decide (r19 = r23))))] [.var [.pv (.int .i64 o2.kind_), .pv (.int .i64 o2.group_), .pv (.int .i64 o2.to_), .pv (.int .i64 o2.id_), .pv (.str o2.name_), .pv (.slice (List.map PV.str o2.values_)), .pv (.int .i64 o2.offset_), .pv (.str o2.data_)]] ?_ ?_
      · clear h
        exact dg1 (an pf_23 f28)
      refine AW.ret ?_
      cases h
      exact fin
    · replace h := bif_f hb17 h
      refine AW.seq ?_
      refine AW.reg hS [(0, .pv (.slice (List.map GEnv.pv l1))), (3, .ref 0 0), (35, .pv (.int .i64 o2.kind_)), (98, .pv (.bool (decide (o2.kind_ = 2))))] [.var [.pv (.int .i64 o2.kind_), .pv (.int .i64 o2.group_), .pv (.int .i64 o2.to_), .pv (.int .i64 o2.id_), .pv (.str o2.name_), .pv (.slice (List.map PV.str o2.values_)), .pv (.int .i64 o2.offset_), .pv (.str o2.data_)]] ?_ ?_
      · exact dk
      refine AW.cond (b := decide (o2.kind_ = 2)) rfl (fun hb29 => ?_) (fun hb29 => ?_)
      · replace h := bif_t hb29 h
        refine AW.seq ?_
        replace h := obs h; obtain ⟨⟨r30, r31, r32⟩, q33, h⟩ := h
        dsimp only at h
        have f34 := c_F25 l1 o2.group_ o2.id_ o2.name_ r30 r31 r32 q33
        try dsimp only at f34
        refine AW.reg hS [(0, .pv (.slice (List.map GEnv.pv l1))), (3, .ref 0 0), (14, .pv (.slice (List.map GEnv.pv r30))), (15, .pv (.int .i64 r31)), (16, .pv (.int .i64 r32))] [.var [.pv (.int .i64 o2.kind_), .pv (.int .i64 o2.group_), .pv (.int .i64 o2.to_), .pv (.int .i64 o2.id_), .pv (.str o2.name_), .pv (.slice (List.map PV.str o2.values_)), .pv (.int .i64 o2.offset_), .pv (.str o2.data_)]] ?_ ?_
        · exact dk1 (an pf_25 f34)
        refine AW.seq ?_
        replace h := obs h; obtain ⟨⟨r35, r36, r37⟩, q38, h⟩ := h
        dsimp only at h
        have f39 := c_F26 l1 o2.group_ o2.id_ o2.name_ r35 r36 r37 q38
        try dsimp only at f39
        refine AW.reg hS [(14, .pv (.slice (List.map GEnv.pv r30))), (15, .pv (.int .i64 r31)), (16, .pv (.int .i64 r32)), (17, .pv (.slice (List.map GEnv.pv r35))), (18, .pv (.int .i64 r36)), (19, .pv (.int .i64 r37))] [.var [.pv (.int .i64 o2.kind_), .pv (.int .i64 o2.group_), .pv (.int .i64 o2.to_), .pv (.int .i64 o2.id_), .pv (.str o2.name_), .pv (.slice (List.map PV.str o2.values_)), .pv (.int .i64 o2.offset_), .pv (.str o2.data_)]] ?_ ?_
        · exact dk1 (an pf_26 f39)
        refine AW.seq ?_
        replace h := obs h; obtain ⟨r40, q41, h⟩ := h
        have f42 := c_F23 r30 r35 r40 q41
        try dsimp only at f42
        refine AW.reg hS [(4, .pv (.slice (List.map GEnv.pv r30))), (5, .pv (.bool ((r40 && decide (r31 = r36)) && decide (r32 = r37))))] [.var [.pv (.int .i64 o2.kind_), .pv (.int .i64 o2.group_), .pv (.int .i64 o2.to_), .pv (.int .i64 o2.id_), .pv (.str o2.name_), .pv (.slice (List.map PV.str o2.values_)), .pv (.int .i64 o2.offset_), .pv (.str o2.data_)]] ?_ ?_
        · clear h
          exact dg1 (an pf_23 f42)
        refine AW.ret ?_
        cases h
        exact fin
      · replace h := bif_f hb29 h
        refine AW.seq ?_
        refine AW.reg hS [(0, .pv (.slice (List.map GEnv.pv l1))), (3, .ref 0 0), (35, .pv (.int .i64 o2.kind_)), (138, .pv (.bool (decide (o2.kind_ = 3))))] [.var [.pv (.int .i64 o2.kind_), .pv (.int .i64 o2.group_), .pv (.int .i64 o2.to_), .pv (.int .i64 o2.id_), .pv (.str o2.name_), .pv (.slice (List.map PV.str o2.values_)), .pv (.int .i64 o2.offset_), .pv (.str o2.data_)]] ?_ ?_
        · exact dk
        refine AW.cond (b := decide (o2.kind_ = 3)) rfl (fun hb43 => ?_) (fun hb43 => ?_)
        · replace h := bif_t hb43 h
          refine AW.seq ?_
          replace h := obs h; obtain ⟨⟨r44, r45, r46⟩, q47, h⟩ := h
          dsimp only at h
          have f48 := c_F16 l1 o2.group_ o2.id_ o2.offset_ o2.data_ r44 r45 r46 q47
          try dsimp only at f48
          refine AW.reg hS [(0, .pv (.slice (List.map GEnv.pv l1))), (3, .ref 0 0), (20, .pv (.slice (List.map GEnv.pv r44))), (21, .pv (.int .i64 r45)), (22, .pv (.int .i64 r46))] [.var [.pv (.int .i64 o2.kind_), .pv (.int .i64 o2.group_), .pv (.int .i64 o2.to_), .pv (.int .i64 o2.id_), .pv (.str o2.name_), .pv (.slice (List.map PV.str o2.values_)), .pv (.int .i64 o2.offset_), .pv (.str o2.data_)]] ?_ ?_
          · exact dk1 (an pf_16 f48)
          refine AW.seq ?_
          replace h := obs h; obtain ⟨⟨r49, r50, r51⟩, q52, h⟩ := h
          dsimp only at h
          have f53 := c_F27 l1 o2.group_ o2.id_ o2.offset_ o2.data_ r49 r50 r51 q52
          try dsimp only at f53
          refine AW.reg hS [(20, .pv (.slice (List.map GEnv.pv r44))), (21, .pv (.int .i64 r45)), (22, .pv (.int .i64 r46)), (23, .pv (.slice (List.map GEnv.pv r49))), (24, .pv (.int .i64 r50)), (25, .pv (.int .i64 r51))] [.var [.pv (.int .i64 o2.kind_), .pv (.int .i64 o2.group_), .pv (.int .i64 o2.to_), .pv (.int .i64 o2.id_), .pv (.str o2.name_), .pv (.slice (List.map PV.str o2.values_)), .pv (.int .i64 o2.offset_), .pv (.str o2.data_)]] ?_ ?_
          · exact dk1 (an pf_27 f53)
          refine AW.seq ?_
          replace h := obs h; obtain ⟨r54, q55, h⟩ := h
          have f56 := c_F23 r44 r49 r54 q55
          try dsimp only at f56
          refine AW.reg hS [(4, .pv (.slice (List.map GEnv.pv r44))), (5, .pv (.bool ((r54 && decide (r45 = r50)) && decide (r46 = r51))))] [.var [.pv (.int .i64 o2.kind_), .pv (.int .i64 o2.group_), .pv (.int .i64 o2.to_), .pv (.int .i64 o2.id_), .pv (.str o2.name_), .pv (.slice (List.map PV.str o2.values_)), .pv (.int .i64 o2.offset_), .pv (.str o2.data_)]] ?_ ?_
          · clear h
            exact dg1 (an pf_23 f56)
          refine AW.ret ?_
          cases h
          exact fin
        · replace h := bif_f hb43 h
          refine AW.seq ?_
          refine AW.reg hS [(0, .pv (.slice (List.map GEnv.pv l1))), (3, .ref 0 0), (182, .pv (.bool (decide (o2.kind_ = 4))))] [.var [.pv (.int .i64 o2.kind_), .pv (.int .i64 o2.group_), .pv (.int .i64 o2.to_), .pv (.int .i64 o2.id_), .pv (.str o2.name_), .pv (.slice (List.map PV.str o2.values_)), .pv (.int .i64 o2.offset_), .pv (.str o2.data_)]] ?_ ?_
          · exact dk
          refine AW.cond (b := decide (o2.kind_ = 4)) rfl (fun hb57 => ?_) (fun hb57 => ?_)
          · replace h := bif_t hb57 h
            refine AW.seq ?_
            replace h := obs h; obtain ⟨⟨r58, r59⟩, q60, h⟩ := h
            dsimp only at h
            have f61 := c_F28 l1 o2.group_ o2.id_ r58 r59 q60
            try dsimp only at f61
            refine AW.reg hS [(0, .pv (.slice (List.map GEnv.pv l1))), (3, .ref 0 0), (26, .pv (.slice (List.map GEnv.pv r58))), (27, .pv (.int .i64 r59))] [.var [.pv (.int .i64 o2.kind_), .pv (.int .i64 o2.group_), .pv (.int .i64 o2.to_), .pv (.int .i64 o2.id_), .pv (.str o2.name_), .pv (.slice (List.map PV.str o2.values_)), .pv (.int .i64 o2.offset_), .pv (.str o2.data_)]] ?_ ?_
            · exact dk1 (an pf_28 f61)
            refine AW.seq ?_
            replace h := obs h; obtain ⟨⟨r62, r63⟩, q64, h⟩ := h
            dsimp only at h
            have f65 := c_F29 l1 o2.group_ o2.id_ r62 r63 q64
            try dsimp only at f65
            refine AW.reg hS [(26, .pv (.slice (List.map GEnv.pv r58))), (27, .pv (.int .i64 r59)), (28, .pv (.slice (List.map GEnv.pv r62))), (29, .pv (.int .i64 r63))] [.var [.pv (.int .i64 o2.kind_), .pv (.int .i64 o2.group_), .pv (.int .i64 o2.to_), .pv (.int .i64 o2.id_), .pv (.str o2.name_), .pv (.slice (List.map PV.str o2.values_)), .pv (.int .i64 o2.offset_), .pv (.str o2.data_)]] ?_ ?_
            · exact dk1 (an pf_29 f65)
            refine AW.seq ?_
            replace h := obs h; obtain ⟨r66, q67, h⟩ := h
            have f68 := c_F23 r58 r62 r66 q67
            try dsimp only at f68
            refine AW.reg hS [(4, .pv (.slice (List.map GEnv.pv r58))), (5, .pv (.bool (r66 && decide (r59 = r63))))] [.var [.pv (.int .i64 o2.kind_), .pv (.int .i64 o2.group_), .pv (.int .i64 o2.to_), .pv (.int .i64 o2.id_), .pv (.str o2.name_), .pv (.slice (List.map PV.str o2.values_)), .pv (.int .i64 o2.offset_), .pv (.str o2.data_)]] ?_ ?_
            · clear h
              exact dg1 (an pf_23 f68)
            refine AW.ret ?_
            cases h
            exact fin
          · replace h := bif_f hb57 h
            refine AW.skip ?_
            refine AW.seq ?_
            replace h := obs h; obtain ⟨⟨r69, r70⟩, q71, h⟩ := h
            dsimp only at h
            have f72 := c_F30 l1 o2.group_ o2.id_ r69 r70 q71
            try dsimp only at f72
            refine AW.reg hS [(0, .pv (.slice (List.map GEnv.pv l1))), (3, .ref 0 0), (30, .pv (.slice (List.map GEnv.pv r69))), (31, .pv (.int .i64 r70))] [.var [.pv (.int .i64 o2.kind_), .pv (.int .i64 o2.group_), .pv (.int .i64 o2.to_), .pv (.int .i64 o2.id_), .pv (.str o2.name_), .pv (.slice (List.map PV.str o2.values_)), .pv (.int .i64 o2.offset_), .pv (.str o2.data_)]] ?_ ?_
            · exact dk1 (an pf_30 f72)
            refine AW.seq ?_
            replace h := obs h; obtain ⟨⟨r73, r74⟩, q75, h⟩ := h
            dsimp only at h
            have f76 := c_F31 l1 o2.group_ o2.id_ r73 r74 q75
            try dsimp only at f76
            refine AW.reg hS [(30, .pv (.slice (List.map GEnv.pv r69))), (31, .pv (.int .i64 r70)), (32, .pv (.slice (List.map GEnv.pv r73))), (33, .pv (.int .i64 r74))] [.var [.pv (.int .i64 o2.kind_), .pv (.int .i64 o2.group_), .pv (.int .i64 o2.to_), .pv (.int .i64 o2.id_), .pv (.str o2.name_), .pv (.slice (List.map PV.str o2.values_)), .pv (.int .i64 o2.offset_), .pv (.str o2.data_)]] ?_ ?_
            · exact dk1 (an pf_31 f76)
            refine AW.seq ?_
            replace h := obs h; obtain ⟨r77, q78, h⟩ := h
            have f79 := c_F23 r69 r73 r77 q78
            try dsimp only at f79
            refine AW.reg hS [(4, .pv (.slice (List.map GEnv.pv r69))), (5, .pv (.bool (r77 && decide (r70 = r74))))] [.var [.pv (.int .i64 o2.kind_), .pv (.int .i64 o2.group_), .pv (.int .i64 o2.to_), .pv (.int .i64 o2.id_), .pv (.str o2.name_), .pv (.slice (List.map PV.str o2.values_)), .pv (.int .i64 o2.offset_), .pv (.str o2.data_)]] ?_ ?_
            · clear h
              exact dg1 (an pf_23 f79)
            refine AW.ret ?_
            cases h
            exact fin

set_option maxHeartbeats 4000000 in
theorem g_F3 {O : Orc} (hS : Sound env O) (hpf : O.pf = pfn) (c_F4 : C_F4 O) (c_F5 : C_F5 O) (c_F6 : C_F6 O) (c_F7 : C_F7 O) (c_F8 : C_F8 O) (l1 : List GEnv) (o2 : GOp) (r3 : Bool) (h : F3 l1 o2 = some r3) : Good env 3 [.pv (.slice (List.map GEnv.pv l1)), .pv (.agg [.int .i64 o2.kind_, .int .i64 o2.group_, .int .i64 o2.to_, .int .i64 o2.id_, .str o2.name_, .slice (List.map PV.str o2.values_), .int .i64 o2.offset_, .str o2.data_])] [] [.pv (.bool r3)] [] := by
  have pf_4 : O.pf 4 = true := by rw [hpf]; rfl
  have pf_5 : O.pf 5 = true := by rw [hpf]; rfl
  have pf_6 : O.pf 6 = true := by rw [hpf]; rfl
  have pf_7 : O.pf 7 = true := by rw [hpf]; rfl
  have pf_8 : O.pf 8 = true := by rw [hpf]; rfl
  refine Good.start (fn := Tryz.f3) (N := 31) fn_3 rfl rfl (by simp) [] _ rfl rfl ?_
  rw [F3] at h
  refine AW.seq ?_
  refine AW.reg hS [(0, .pv (.slice (List.map GEnv.pv l1))), (3, .ref 0 0)] [.var [.pv (.int .i64 o2.kind_), .pv (.int .i64 o2.group_), .pv (.int .i64 o2.to_), .pv (.int .i64 o2.id_), .pv (.str o2.name_), .pv (.slice (List.map PV.str o2.values_)), .pv (.int .i64 o2.offset_), .pv (.str o2.data_)]] ?_ ?_
  · exact dk
  refine AW.seq ?_
  refine AW.seq ?_
  replace h := obs h; obtain ⟨r4, q5, h⟩ := h
  have f6 := c_F4 l1 r4 q5
  try dsimp only at f6
  replace h := obs h; obtain ⟨r7, q8, h⟩ := h
  have f9 := fun hg => c_F5 o2 r7 (guardO_t q8 hg)
  try dsimp only at f9
  replace h := obs h; obtain ⟨r10, q11, h⟩ := h
  have f12 := fun hg => c_F6 l1 r10 (guardO_t q11 hg)
  try dsimp only at f12
  refine AW.reg hS [(0, .pv (.slice (List.map GEnv.pv l1))), (3, .ref 0 0), (19, .pv (.bool ((!r4 || !r7) || !r10)))] [.var [.pv (.int .i64 o2.kind_), .pv (.int .i64 o2.group_), .pv (.int .i64 o2.to_), .pv (.int .i64 o2.id_), .pv (.str o2.name_), .pv (.slice (List.map PV.str o2.values_)), .pv (.int .i64 o2.offset_), .pv (.str o2.data_)]] ?_ ?_
  · clear h
    exact dg1 (an pf_4 (an f6 (an pf_5 (an f9 (an pf_6 f12)))))
  refine AW.cond (b := ((!r4 || !r7) || !r10)) rfl (fun hb13 => ?_) (fun hb13 => ?_)
  · replace h := bif_t hb13 h
    refine AW.seq ?_
    replace h := obs h; obtain ⟨r14, q15, h⟩ := h
    have f16 := c_F7 r14 q15
    try dsimp only at f16
    refine AW.reg hS [(4, .pv (.bool r14))] [.var [.pv (.int .i64 o2.kind_), .pv (.int .i64 o2.group_), .pv (.int .i64 o2.to_), .pv (.int .i64 o2.id_), .pv (.str o2.name_), .pv (.slice (List.map PV.str o2.values_)), .pv (.int .i64 o2.offset_), .pv (.str o2.data_)]] ?_ ?_
    · exact dk1 (an pf_7 f16)
    refine AW.ret ?_
    cases h
    exact fin
  · replace h := bif_f hb13 h
    refine AW.skip ?_
    refine AW.seq ?_
    replace h := obs h; obtain ⟨⟨r17, r18⟩, q19, h⟩ := h
    dsimp only at h
    have f20 := c_F8 l1 o2 r17 r18 q19
    try dsimp only at f20
    refine AW.reg hS [(6, .pv (.bool r18))] [.var [.pv (.int .i64 o2.kind_), .pv (.int .i64 o2.group_), .pv (.int .i64 o2.to_), .pv (.int .i64 o2.id_), .pv (.str o2.name_), .pv (.slice (List.map PV.str o2.values_)), .pv (.int .i64 o2.offset_), .pv (.str o2.data_)]] ?_ ?_
    · exact dk1 (an pf_8 f20)
    refine AW.seq ?_
    replace h := obs h; obtain ⟨r21, q22, h⟩ := h
    have f23 := fun hg => c_F7 r21 (guardO_t q22 hg)
    try dsimp only at f23
    refine AW.reg hS [(4, .pv (.bool (r18 && r21)))] [.var [.pv (.int .i64 o2.kind_), .pv (.int .i64 o2.group_), .pv (.int .i64 o2.to_), .pv (.int .i64 o2.id_), .pv (.str o2.name_), .pv (.slice (List.map PV.str o2.values_)), .pv (.int .i64 o2.offset_), .pv (.str o2.data_)]] ?_ ?_
    · clear h
      exact dg1 (an pf_7 f23)
    refine AW.ret ?_
    cases h
    exact fin

end Go.Abs.U2Z
