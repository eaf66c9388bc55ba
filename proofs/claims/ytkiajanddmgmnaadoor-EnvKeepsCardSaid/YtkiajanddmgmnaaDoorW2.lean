/- The layer 29 laws: the functions walked. -/
import Derived.Test.YtkiajanddmgmnaaDoorD1
set_option linter.unusedVariables false
set_option linter.unusedSimpArgs false
set_option maxRecDepth 8000
namespace Go.Abs.U29
open Go.RowKit Go.Proofs

set_option maxHeartbeats 4000000 in
theorem g_F85 {O : Orc} (hS : Sound env O) (hpf : O.pf = pfn) (c_F83x1 : C_F83x1 O) (g1 : GEnv) (id2 : Int) (r3 : Int) (h : F85 g1 id2 = some r3) : Good env 85 [.pv (.agg [.int .i64 g1.id_, .int .i64 g1.next_, .slice (List.map Var.pv g1.vars_)]), .pv (.int .i64 id2)] [] [.pv (.int .i64 r3)] [] := by
  have pf_83 : O.pf 83 = false := by rw [hpf]; rfl
  refine Good.start (fn := Tryd.f85) (N := 9) fn_85 rfl rfl (by simp) [] _ rfl rfl ?_
  rw [F85] at h
  refine AW.seq ?_
  refine AW.reg hS [(2, .ref 0 0), (3, .ref 1 0)] [.var [.pv (.int .i64 g1.id_), .pv (.int .i64 g1.next_), .pv (.slice (List.map Var.pv g1.vars_))], .var [.pv (.int .i64 id2)]] ?_ ?_
  · exact dk
  refine AW.seq ?_
  replace h := obs h; obtain ⟨r4, q5, h⟩ := h
  have f6 := c_F83x1 g1.vars_ id2 r4 q5
  try dsimp only at f6
  have e7 : ecall O [.var [.pv (.int .i64 g1.id_), .pv (.int .i64 g1.next_), .pv (.slice (List.map Var.pv g1.vars_))], .var [.pv (.int .i64 id2)]] 83 [.pv (.slice (List.map Var.pv g1.vars_)), .fn 100 [1]] = some (retAV [.pv (.int .i64 r4)], [.var [.pv (.int .i64 g1.id_), .pv (.int .i64 g1.next_), .pv (.slice (List.map Var.pv g1.vars_))], .var [.pv (.int .i64 id2)]]) := ecall_eq rfl rfl rfl f6 rfl rfl rfl
  refine AW.reg hS [(4, .pv (.int .i64 r4))] [.var [.pv (.int .i64 g1.id_), .pv (.int .i64 g1.next_), .pv (.slice (List.map Var.pv g1.vars_))], .var [.pv (.int .i64 id2)]] ?_ ?_
  · exact dk1 (an pf_83 e7)
  refine AW.ret ?_
  cases h
  exact fin

set_option maxHeartbeats 4000000 in
theorem g_F58 {O : Orc} (hS : Sound env O) (hpf : O.pf = pfn) (c_F43 : C_F43 O) (c_F85 : C_F85 O) (l1 : List GEnv) (group2 : Int) (id3 : Int) (r4 : Int) (r5 : Int) (r6 : Int) (h : F58 l1 group2 id3 = some (r4, r5, r6)) : Good env 58 [.pv (.slice (List.map GEnv.pv l1)), .pv (.int .i64 group2), .pv (.int .i64 id3)] [] [.pv (.int .i64 r4), .pv (.int .i64 r5), .pv (.int .i64 r6)] [] := by
  have pf_43 : O.pf 43 = true := by rw [hpf]; rfl
  have pf_85 : O.pf 85 = true := by rw [hpf]; rfl
  refine Good.start (fn := Tryd.f58) (N := 29) fn_58 rfl rfl (by simp) [] _ rfl rfl ?_
  rw [F58] at h
  refine AW.seq ?_
  refine AW.reg hS [(0, .pv (.slice (List.map GEnv.pv l1))), (1, .pv (.int .i64 group2)), (2, .pv (.int .i64 id3))] [] ?_ ?_
  · exact dk
  refine AW.seq ?_
  replace h := obs h; obtain ⟨r7, q8, h⟩ := h
  have f9 := c_F43 l1 group2 r7 q8
  try dsimp only at f9
  refine AW.reg hS [(0, .pv (.slice (List.map GEnv.pv l1))), (2, .pv (.int .i64 id3)), (9, .pv (.int .i64 r7))] [] ?_ ?_
  · exact dk1 (an pf_43 f9)
  refine AW.seq ?_
  refine AW.seq ?_
  refine AW.reg hS [(0, .pv (.slice (List.map GEnv.pv l1))), (2, .pv (.int .i64 id3)), (9, .pv (.int .i64 r7)), (15, .pv (.bool (decide (r7 < 0))))] [] ?_ ?_
  · exact dk
  refine AW.cond (b := decide (r7 < 0)) rfl (fun hb10 => ?_) (fun hb10 => ?_)
  · replace h := bif_t hb10 h
    refine AW.seq ?_
    refine AW.reg hS [(6, .pv (.int .i64 0)), (7, .pv (.int .i64 0)), (8, .pv (.int .i64 8))] [] ?_ ?_
    · exact dk
    refine AW.ret ?_
    cases h
    exact fin
  · replace h := bif_f hb10 h
    refine AW.skip ?_
    refine AW.seq ?_
    refine AW.seq ?_
    refine AW.reg hS [(0, .pv (.slice (List.map GEnv.pv l1))), (2, .pv (.int .i64 id3)), (9, .pv (.int .i64 r7)), (17, .pv (.bool (decide (id3 = 1))))] [] ?_ ?_
    · exact dk
    refine AW.cond (b := decide (id3 = 1)) rfl (fun hb11 => ?_) (fun hb11 => ?_)
    · replace h := bif_t hb11 h
      refine AW.seq ?_
      refine AW.reg hS [(6, .pv (.int .i64 r7)), (7, .pv (.int .i64 (-1))), (8, .pv (.int .i64 0))] [] ?_ ?_
      · exact dk
      refine AW.ret ?_
      cases h
      exact fin
    · replace h := bif_f hb11 h
      refine AW.skip ?_
      refine AW.seq ?_
      replace h := obs h; obtain ⟨u12, q13, h⟩ := h
      have f14 := lidx_f q13
      replace h := obs h; obtain ⟨r15, q16, h⟩ := h
      have f17 := c_F85 u12 id3 r15 q16
      try dsimp only at f17
      refine AW.reg hS [(9, .pv (.int .i64 r7)), (10, .pv (.int .i64 r15))] [] ?_ ?_
      · exact dk1 (an f14.1 (an f14.2.1 (an pf_85 f17)))
      refine AW.seq ?_
      refine AW.seq ?_
      refine AW.reg hS [(9, .pv (.int .i64 r7)), (10, .pv (.int .i64 r15)), (26, .pv (.bool (decide (r15 < 0))))] [] ?_ ?_
      · exact dk
      refine AW.cond (b := decide (r15 < 0)) rfl (fun hb18 => ?_) (fun hb18 => ?_)
      · replace h := bif_t hb18 h
        refine AW.seq ?_
        refine AW.reg hS [(6, .pv (.int .i64 0)), (7, .pv (.int .i64 0)), (8, .pv (.int .i64 8))] [] ?_ ?_
        · exact dk
        refine AW.ret ?_
        cases h
        exact fin
      · replace h := bif_f hb18 h
        refine AW.skip ?_
        refine AW.seq ?_
        refine AW.reg hS [(6, .pv (.int .i64 r7)), (7, .pv (.int .i64 r15)), (8, .pv (.int .i64 0))] [] ?_ ?_
        · exact dk
        refine AW.ret ?_
        cases h
        exact fin

set_option maxHeartbeats 4000000 in
theorem g_F55 {O : Orc} (hS : Sound env O) (hpf : O.pf = pfn) (c_F58 : C_F58 O) (l1 : List GEnv) (group2 : Int) (id3 : Int) (r4 : Int) (r5 : Int) (r6 : Int) (h : F55 l1 group2 id3 = some (r4, r5, r6)) : Good env 55 [.pv (.slice (List.map GEnv.pv l1)), .pv (.int .i64 group2), .pv (.int .i64 id3)] [] [.pv (.int .i64 r4), .pv (.int .i64 r5), .pv (.int .i64 r6)] [] := by
  have pf_58 : O.pf 58 = true := by rw [hpf]; rfl
  refine Good.start (fn := Tryd.f55) (N := 29) fn_55 rfl rfl (by simp) [] _ rfl rfl ?_
  rw [F55] at h
  refine AW.seq ?_
  refine AW.reg hS [(0, .pv (.slice (List.map GEnv.pv l1))), (1, .pv (.int .i64 group2)), (2, .pv (.int .i64 id3))] [] ?_ ?_
  · exact dk
  refine AW.seq ?_
  replace h := obs h; obtain ⟨⟨r7, r8, r9⟩, q10, h⟩ := h
  dsimp only at h
  have f11 := c_F58 l1 group2 id3 r7 r8 r9 q10
  try dsimp only at f11
  refine AW.reg hS [(9, .pv (.int .i64 r7)), (10, .pv (.int .i64 r8)), (11, .pv (.int .i64 r9))] [] ?_ ?_
  · exact dk1 (an pf_58 f11)
  refine AW.seq ?_
  refine AW.seq ?_
  refine AW.reg hS [(9, .pv (.int .i64 r7)), (10, .pv (.int .i64 r8)), (11, .pv (.int .i64 r9)), (25, .pv (.bool (decide (r9 = 0) && decide (r8 < 0))))] [] ?_ ?_
  · clear h
    exact dg
  refine AW.cond (b := (decide (r9 = 0) && decide (r8 < 0))) rfl (fun hb12 => ?_) (fun hb12 => ?_)
  · replace h := bif_t hb12 h
    refine AW.seq ?_
    refine AW.reg hS [(6, .pv (.int .i64 0)), (7, .pv (.int .i64 0)), (8, .pv (.int .i64 10))] [] ?_ ?_
    · exact dk
    refine AW.ret ?_
    cases h
    exact fin
  · replace h := bif_f hb12 h
    refine AW.skip ?_
    refine AW.seq ?_
    refine AW.reg hS [(6, .pv (.int .i64 r7)), (7, .pv (.int .i64 r8)), (8, .pv (.int .i64 r9))] [] ?_ ?_
    · exact dk
    refine AW.ret ?_
    cases h
    exact fin

set_option maxHeartbeats 4000000 in
theorem g_F56 {O : Orc} (hS : Sound env O) (hpf : O.pf = pfn) (c_L_Join : C_L_Join O) (v1 : Var) (r2 : Str) (h : F56 v1 = some r2) : Good env 56 [.pv (.agg [.int .i64 v1.id_, .str v1.name_, .slice (List.map PV.str v1.values_)])] [] [.pv (.str r2)] [] := by
  have pf_37 : O.pf 37 = true := by rw [hpf]; rfl
  refine Good.start (fn := Tryd.f56) (N := 6) fn_56 rfl rfl (by simp) [] _ rfl rfl ?_
  rw [F56] at h
  refine AW.seq ?_
  refine AW.reg hS [(1, .ref 0 0)] [.var [.pv (.int .i64 v1.id_), .pv (.str v1.name_), .pv (.slice (List.map PV.str v1.values_))]] ?_ ?_
  · exact dk
  refine AW.seq ?_
  replace h := obs h; obtain ⟨s3, q4, h⟩ := h
  have f5 := c_L_Join v1.values_ [0] s3 q4
  try dsimp only at f5
  try simp only [List.map_cons, List.map_nil, P22_eq, GOp.pv_eq, Var.pv_eq, P72_eq, GEnv.pv_eq] at f5
  refine AW.reg hS [(2, .pv (.str s3))] [.var [.pv (.int .i64 v1.id_), .pv (.str v1.name_), .pv (.slice (List.map PV.str v1.values_))]] ?_ ?_
  · exact dk1 (an pf_37 f5)
  refine AW.ret ?_
  cases h
  exact fin

set_option maxHeartbeats 4000000 in
theorem g_F24 {O : Orc} (hS : Sound env O) (hpf : O.pf = pfn) (c_F55 : C_F55 O) (c_F56 : C_F56 O) (l1 : List GEnv) (group2 : Int) (id3 : Int) (offset4 : Int) (count5 : Int) (r6 : Str) (r7 : Int) (h : F24 l1 group2 id3 offset4 count5 = some (r6, r7)) : Good env 24 [.pv (.slice (List.map GEnv.pv l1)), .pv (.int .i64 group2), .pv (.int .i64 id3), .pv (.int .i64 offset4), .pv (.int .i64 count5)] [] [.pv (.str r6), .pv (.int .i64 r7)] [] := by
  have pf_55 : O.pf 55 = true := by rw [hpf]; rfl
  have pf_56 : O.pf 56 = true := by rw [hpf]; rfl
  refine Good.start (fn := Tryd.f24) (N := 56) fn_24 rfl rfl (by simp) [] _ rfl rfl ?_
  rw [F24] at h
  refine AW.seq ?_
  refine AW.reg hS [(0, .pv (.slice (List.map GEnv.pv l1))), (1, .pv (.int .i64 group2)), (2, .pv (.int .i64 id3)), (3, .pv (.int .i64 offset4)), (4, .pv (.int .i64 count5))] [] ?_ ?_
  · exact dk
  refine AW.seq ?_
  replace h := obs h; obtain ⟨⟨r8, r9, r10⟩, q11, h⟩ := h
  dsimp only at h
  have f12 := c_F55 l1 group2 id3 r8 r9 r10 q11
  try dsimp only at f12
  refine AW.reg hS [(0, .pv (.slice (List.map GEnv.pv l1))), (3, .pv (.int .i64 offset4)), (4, .pv (.int .i64 count5)), (12, .pv (.int .i64 r8)), (13, .pv (.int .i64 r9)), (14, .pv (.int .i64 r10))] [] ?_ ?_
  · exact dk1 (an pf_55 f12)
  refine AW.seq ?_
  refine AW.block ?_
  refine AW.seq ?_
  refine AW.reg hS [(0, .pv (.slice (List.map GEnv.pv l1))), (3, .pv (.int .i64 offset4)), (4, .pv (.int .i64 count5)), (12, .pv (.int .i64 r8)), (13, .pv (.int .i64 r9)), (14, .pv (.int .i64 r10)), (24, .pv (.bool (!decide (r10 = 0))))] [] ?_ ?_
  · exact dk
  refine AW.cond (b := !decide (r10 = 0)) rfl (fun hb13 => ?_) (fun hb13 => ?_)
  · replace h := bif_t hb13 h
    refine AW.seq ?_
    refine AW.reg hS [(10, .pv (.str [])), (11, .pv (.int .i64 r10))] [] ?_ ?_
    · exact dk
    refine AW.ret ?_
    cases h
    exact fin
  · replace h := bif_f hb13 h
    refine AW.seq ?_
    refine AW.reg hS [(0, .pv (.slice (List.map GEnv.pv l1))), (3, .pv (.int .i64 offset4)), (4, .pv (.int .i64 count5)), (12, .pv (.int .i64 r8)), (13, .pv (.int .i64 r9)), (28, .pv (.bool (decide (offset4 < 0) || decide (count5 < 0))))] [] ?_ ?_
    · clear h
      exact dg
    refine AW.cond (b := (decide (offset4 < 0) || decide (count5 < 0))) rfl (fun hb14 => ?_) (fun hb14 => ?_)
    · replace h := bif_t hb14 h
      refine AW.seq ?_
      refine AW.reg hS [(10, .pv (.str [])), (11, .pv (.int .i64 1))] [] ?_ ?_
      · exact dk
      refine AW.ret ?_
      cases h
      exact fin
    · replace h := bif_f hb14 h
      refine AW.skip ?_
      refine AW.seq ?_
      replace h := obs h; obtain ⟨u15, q16, h⟩ := h
      have f17 := lidx_f q16
      replace h := obs h; obtain ⟨u18, q19, h⟩ := h
      have f20 := lidx_f q19
      replace h := obs h; obtain ⟨r21, q22, h⟩ := h
      have f23 := c_F56 u18 r21 q22
      try dsimp only at f23
      refine AW.reg hS [(3, .pv (.int .i64 offset4)), (4, .pv (.int .i64 count5)), (15, .pv (.str r21))] [] ?_ ?_
      · exact dk1 (an f17.1 (an f17.2.1 (an f20.1 (an f20.2.1 (an pf_56 f23)))))
      refine AW.seq ?_
      replace h := obs h; obtain ⟨t24, q25, h⟩ := h
      have f26 := sslice_f q25
      have f26e := f26.2.2.2.2
      try simp only [Int.toNat_natCast, Int.toNat_zero, List.drop_zero] at f26e
      have f26l := f26.2.2.1
      try simp only [Int.toNat_natCast, Int.toNat_zero] at f26l
      refine AW.reg hS [(4, .pv (.int .i64 count5)), (15, .pv (.str t24))] [] ?_ ?_
      · exact dkt1 (an f26.1 (an f26.2.1 (an f26l (an f26.2.2.2.1 f26e))))
      refine AW.seq ?_
      replace h := obs h; obtain ⟨t27, q28, h⟩ := h
      have f29 := sslice_f q28
      have f29e := f29.2.2.2.2
      try simp only [Int.toNat_natCast, Int.toNat_zero, List.drop_zero] at f29e
      have f29l := f29.2.2.1
      try simp only [Int.toNat_natCast, Int.toNat_zero] at f29l
      refine AW.reg hS [(10, .pv (.str t27)), (11, .pv (.int .i64 0))] [] ?_ ?_
      · exact dkt1 (an f29.1 (an f29.2.1 (an f29l (an f29.2.2.2.1 f29e))))
      refine AW.ret ?_
      cases h
      exact fin

set_option maxHeartbeats 4000000 in
theorem g_F11 {O : Orc} (hS : Sound env O) (hpf : O.pf = pfn) (c_L_Count : C_L_Count O) (c_L_Split : C_L_Split O) (s1 : Str) (r2 : List Str) (r3 : Int) (h : F11 s1 = some (r2, r3)) : Good env 11 [.pv (.str s1)] [] [.pv (.slice (List.map PV.str r2)), .pv (.int .i64 r3)] [] := by
  have pf_38 : O.pf 38 = true := by rw [hpf]; rfl
  have pf_39 : O.pf 39 = true := by rw [hpf]; rfl
  refine Good.start (fn := Tryd.f11) (N := 14) fn_11 rfl rfl (by simp) [] _ rfl rfl ?_
  rw [F11] at h
  refine AW.seq ?_
  refine AW.reg hS [(0, .pv (.str s1))] [] ?_ ?_
  · exact dk
  refine AW.seq ?_
  refine AW.block ?_
  refine AW.seq ?_
  refine AW.reg hS [(0, .pv (.str s1)), (4, .pv (.bool (decide (65536 < (s1.length : Int)))))] [] ?_ ?_
  · exact dk
  refine AW.cond (b := decide (65536 < (s1.length : Int))) rfl (fun hb4 => ?_) (fun hb4 => ?_)
  · replace h := bif_t hb4 h
    refine AW.seq ?_
    refine AW.reg hS [(2, .nils), (3, .pv (.int .i64 4))] [] ?_ ?_
    · exact dk
    refine AW.ret ?_
    cases h
    exact fin
  · replace h := bif_f hb4 h
    refine AW.seq ?_
    replace h := obs h; obtain ⟨n5, q6, h⟩ := h
    have f7 := c_L_Count s1 [0] n5 q6
    try dsimp only at f7
    try simp only [List.map_cons, List.map_nil, P22_eq, GOp.pv_eq, Var.pv_eq, P72_eq, GEnv.pv_eq] at f7
    refine AW.reg hS [(0, .pv (.str s1)), (8, .pv (.bool (decide (256 ≤ n5))))] [] ?_ ?_
    · exact dk1 (an pf_38 f7)
    refine AW.cond (b := decide (256 ≤ n5)) rfl (fun hb8 => ?_) (fun hb8 => ?_)
    · replace h := bif_t hb8 h
      refine AW.seq ?_
      refine AW.reg hS [(2, .nils), (3, .pv (.int .i64 22))] [] ?_ ?_
      · exact dk
      refine AW.ret ?_
      cases h
      exact fin
    · replace h := bif_f hb8 h
      refine AW.skip ?_
      refine AW.seq ?_
      replace h := obs h; obtain ⟨l9, q10, h⟩ := h
      have f11 := c_L_Split s1 [0] l9 q10
      try dsimp only at f11
      try simp only [List.map_cons, List.map_nil, P22_eq, GOp.pv_eq, Var.pv_eq, P72_eq, GEnv.pv_eq] at f11
      refine AW.reg hS [(2, .pv (.slice (List.map PV.str l9))), (3, .pv (.int .i64 0))] [] ?_ ?_
      · exact dk1 (an pf_39 f11)
      refine AW.ret ?_
      cases h
      exact fin

set_option maxHeartbeats 4000000 in
theorem g_F33 {O : Orc} (hS : Sound env O) (hpf : O.pf = pfn) (c_F42 : C_F42 O) (c_F55 : C_F55 O) (c_F56 : C_F56 O) (c_L_Repeat : C_L_Repeat O) (c_F11 : C_F11 O) (l1 : List GEnv) (group2 : Int) (id3 : Int) (offset4 : Int) (data5 : Str) (r6 : List GEnv) (r7 : Int) (r8 : Int) (h : F33 l1 group2 id3 offset4 data5 = some (r6, r7, r8)) : Good env 33 [.pv (.slice (List.map GEnv.pv l1)), .pv (.int .i64 group2), .pv (.int .i64 id3), .pv (.int .i64 offset4), .pv (.str data5)] [] [.pv (.slice (List.map GEnv.pv r6)), .pv (.int .i64 r7), .pv (.int .i64 r8)] [] := by
  have pf_11 : O.pf 11 = true := by rw [hpf]; rfl
  have pf_42 : O.pf 42 = false := by rw [hpf]; rfl
  have pf_55 : O.pf 55 = true := by rw [hpf]; rfl
  have pf_56 : O.pf 56 = true := by rw [hpf]; rfl
  have pf_71 : O.pf 71 = true := by rw [hpf]; rfl
  refine Good.start (fn := Tryd.f33) (N := 105) fn_33 rfl rfl (by simp) [] _ rfl rfl ?_
  rw [F33] at h
  refine AW.seq ?_
  refine AW.reg hS [(0, .pv (.slice (List.map GEnv.pv l1))), (1, .pv (.int .i64 group2)), (2, .pv (.int .i64 id3)), (3, .pv (.int .i64 offset4)), (4, .pv (.str data5))] [] ?_ ?_
  · exact dk
  refine AW.seq ?_
  replace h := obs h; obtain ⟨⟨r9, m10⟩, q11, h⟩ := h
  dsimp only at h
  have f12 := c_F42 l1 r9 m10 q11
  try dsimp only at f12
  have e13 : ecall O [] 42 [.pv (.slice (List.map GEnv.pv l1))] = some (retAV [.vec 0 (List.length r9)], [.tree 74 3 2 76 3 m10 (List.map GEnv.pv r9)]) := ecall_eq rfl rfl rfl f12 rfl rfl rfl
  refine AW.reg hS [(0, .pv (.slice (List.map GEnv.pv l1))), (1, .pv (.int .i64 group2)), (2, .pv (.int .i64 id3)), (3, .pv (.int .i64 offset4)), (4, .pv (.str data5)), (13, .vec 0 (List.length r9))] [.tree 74 3 2 76 3 m10 (List.map GEnv.pv r9)] ?_ ?_
  · exact dk1 (an pf_42 e13)
  refine AW.seq ?_
  replace h := obs h; obtain ⟨⟨r14, r15, r16⟩, q17, h⟩ := h
  dsimp only at h
  have f18 := c_F55 l1 group2 id3 r14 r15 r16 q17
  try dsimp only at f18
  refine AW.reg hS [(0, .pv (.slice (List.map GEnv.pv l1))), (3, .pv (.int .i64 offset4)), (4, .pv (.str data5)), (13, .vec 0 (List.length r9)), (14, .pv (.int .i64 r14)), (15, .pv (.int .i64 r15)), (16, .pv (.int .i64 r16))] [.tree 74 3 2 76 3 m10 (List.map GEnv.pv r9)] ?_ ?_
  · exact dk1 (an pf_55 f18)
  refine AW.seq ?_
  refine AW.block ?_
  refine AW.seq ?_
  refine AW.reg hS [(0, .pv (.slice (List.map GEnv.pv l1))), (3, .pv (.int .i64 offset4)), (4, .pv (.str data5)), (13, .vec 0 (List.length r9)), (14, .pv (.int .i64 r14)), (15, .pv (.int .i64 r15)), (16, .pv (.int .i64 r16)), (29, .pv (.bool (!decide (r16 = 0))))] [.tree 74 3 2 76 3 m10 (List.map GEnv.pv r9)] ?_ ?_
  · exact dk
  refine AW.cond (b := !decide (r16 = 0)) rfl (fun hb19 => ?_) (fun hb19 => ?_)
  · replace h := bif_t hb19 h
    refine AW.seq ?_
    refine AW.reg hS [(10, .vec 0 (List.length r9)), (11, .pv (.int .i64 0)), (12, .pv (.int .i64 r16))] [.tree 74 3 2 76 3 m10 (List.map GEnv.pv r9)] ?_ ?_
    · exact dk
    refine AW.weak (Weak.treeRow 0 rfl) ?_
    refine AW.weak (σ' := ⟨sl [(10, .vec 0 (List.length r9)), (11, .pv (.int .i64 0)), (12, .pv (.int .i64 r16))], 105, [.row 74 3 (List.map GEnv.pv r9) false]⟩) (Weak.of_eq (Weak.slots (L := [(10, .vec 0 (List.length r9)), (11, .pv (.int .i64 0)), (12, .pv (.int .i64 r16))]) ⟨rfl, rfl, rfl, trivial⟩) (by first | rfl | (simp only [List.length_set, List.length_map]; rfl))) ?_
    refine AW.weak (Weak.freeze 0 rfl) ?_
    refine AW.weak (σ' := ⟨sl [(10, .vec 0 (List.length r9)), (11, .pv (.int .i64 0)), (12, .pv (.int .i64 r16))], 105, [.row 74 3 (List.map GEnv.pv r9) true]⟩) (Weak.slots ⟨rfl, rfl, rfl, trivial⟩) ?_
    refine AW.ret ?_
    cases h
    exact fin
  · replace h := bif_f hb19 h
    refine AW.seq ?_
    refine AW.reg hS [(0, .pv (.slice (List.map GEnv.pv l1))), (3, .pv (.int .i64 offset4)), (4, .pv (.str data5)), (13, .vec 0 (List.length r9)), (14, .pv (.int .i64 r14)), (15, .pv (.int .i64 r15)), (34, .pv (.bool (decide (offset4 < 0))))] [.tree 74 3 2 76 3 m10 (List.map GEnv.pv r9)] ?_ ?_
    · exact dk
    refine AW.cond (b := decide (offset4 < 0)) rfl (fun hb20 => ?_) (fun hb20 => ?_)
    · replace h := bif_t hb20 h
      refine AW.seq ?_
      refine AW.reg hS [(10, .vec 0 (List.length r9)), (11, .pv (.int .i64 0)), (12, .pv (.int .i64 1))] [.tree 74 3 2 76 3 m10 (List.map GEnv.pv r9)] ?_ ?_
      · exact dk
      refine AW.weak (Weak.treeRow 0 rfl) ?_
      refine AW.weak (σ' := ⟨sl [(10, .vec 0 (List.length r9)), (11, .pv (.int .i64 0)), (12, .pv (.int .i64 1))], 105, [.row 74 3 (List.map GEnv.pv r9) false]⟩) (Weak.of_eq (Weak.slots (L := [(10, .vec 0 (List.length r9)), (11, .pv (.int .i64 0)), (12, .pv (.int .i64 1))]) ⟨rfl, rfl, rfl, trivial⟩) (by first | rfl | (simp only [List.length_set, List.length_map]; rfl))) ?_
      refine AW.weak (Weak.freeze 0 rfl) ?_
      refine AW.weak (σ' := ⟨sl [(10, .vec 0 (List.length r9)), (11, .pv (.int .i64 0)), (12, .pv (.int .i64 1))], 105, [.row 74 3 (List.map GEnv.pv r9) true]⟩) (Weak.slots ⟨rfl, rfl, rfl, trivial⟩) ?_
      refine AW.ret ?_
      cases h
      exact fin
    · replace h := bif_f hb20 h
      refine AW.seq ?_
      refine AW.reg hS [(0, .pv (.slice (List.map GEnv.pv l1))), (3, .pv (.int .i64 offset4)), (4, .pv (.str data5)), (13, .vec 0 (List.length r9)), (14, .pv (.int .i64 r14)), (15, .pv (.int .i64 r15)), (38, .pv (.bool (decide (data5 = []))))] [.tree 74 3 2 76 3 m10 (List.map GEnv.pv r9)] ?_ ?_
      · exact dk
      refine AW.cond (b := decide (data5 = [])) rfl (fun hb21 => ?_) (fun hb21 => ?_)
      · replace h := bif_t hb21 h
        refine AW.seq ?_
        refine AW.reg hS [(10, .vec 0 (List.length r9)), (11, .pv (.int .i64 0)), (12, .pv (.int .i64 0))] [.tree 74 3 2 76 3 m10 (List.map GEnv.pv r9)] ?_ ?_
        · exact dk
        refine AW.weak (Weak.treeRow 0 rfl) ?_
        refine AW.weak (σ' := ⟨sl [(10, .vec 0 (List.length r9)), (11, .pv (.int .i64 0)), (12, .pv (.int .i64 0))], 105, [.row 74 3 (List.map GEnv.pv r9) false]⟩) (Weak.of_eq (Weak.slots (L := [(10, .vec 0 (List.length r9)), (11, .pv (.int .i64 0)), (12, .pv (.int .i64 0))]) ⟨rfl, rfl, rfl, trivial⟩) (by first | rfl | (simp only [List.length_set, List.length_map]; rfl))) ?_
        refine AW.weak (Weak.freeze 0 rfl) ?_
        refine AW.weak (σ' := ⟨sl [(10, .vec 0 (List.length r9)), (11, .pv (.int .i64 0)), (12, .pv (.int .i64 0))], 105, [.row 74 3 (List.map GEnv.pv r9) true]⟩) (Weak.slots ⟨rfl, rfl, rfl, trivial⟩) ?_
        refine AW.ret ?_
        cases h
        exact fin
      · replace h := bif_f hb21 h
        refine AW.seq ?_
        refine AW.reg hS [(0, .pv (.slice (List.map GEnv.pv l1))), (3, .pv (.int .i64 offset4)), (4, .pv (.str data5)), (13, .vec 0 (List.length r9)), (14, .pv (.int .i64 r14)), (15, .pv (.int .i64 r15)), (42, .pv (.bool (decide (65536 < offset4) || decide (IntKind.wrap .i64 (65536 - offset4) < (data5.length : Int)))))] [.tree 74 3 2 76 3 m10 (List.map GEnv.pv r9)] ?_ ?_
        · clear h
          exact dg
        refine AW.cond (b := (decide (65536 < offset4) || decide (IntKind.wrap .i64 (65536 - offset4) < (data5.length : Int)))) rfl (fun hb22 => ?_) (fun hb22 => ?_)
        · replace h := bif_t hb22 h
          refine AW.seq ?_
          refine AW.reg hS [(10, .vec 0 (List.length r9)), (11, .pv (.int .i64 0)), (12, .pv (.int .i64 4))] [.tree 74 3 2 76 3 m10 (List.map GEnv.pv r9)] ?_ ?_
          · exact dk
          refine AW.weak (Weak.treeRow 0 rfl) ?_
          refine AW.weak (σ' := ⟨sl [(10, .vec 0 (List.length r9)), (11, .pv (.int .i64 0)), (12, .pv (.int .i64 4))], 105, [.row 74 3 (List.map GEnv.pv r9) false]⟩) (Weak.of_eq (Weak.slots (L := [(10, .vec 0 (List.length r9)), (11, .pv (.int .i64 0)), (12, .pv (.int .i64 4))]) ⟨rfl, rfl, rfl, trivial⟩) (by first | rfl | (simp only [List.length_set, List.length_map]; rfl))) ?_
          refine AW.weak (Weak.freeze 0 rfl) ?_
          refine AW.weak (σ' := ⟨sl [(10, .vec 0 (List.length r9)), (11, .pv (.int .i64 0)), (12, .pv (.int .i64 4))], 105, [.row 74 3 (List.map GEnv.pv r9) true]⟩) (Weak.slots ⟨rfl, rfl, rfl, trivial⟩) ?_
          refine AW.ret ?_
          cases h
          exact fin
        · replace h := bif_f hb22 h
          refine AW.skip ?_
          refine AW.seq ?_
          replace h := obs h; obtain ⟨u23, q24, h⟩ := h
          have f25 := lidx_f q24
          replace h := obs h; obtain ⟨u26, q27, h⟩ := h
          have f28 := lidx_f q27
          replace h := obs h; obtain ⟨r29, q30, h⟩ := h
          have f31 := c_F56 u26 r29 q30
          try dsimp only at f31
          refine AW.reg hS [(3, .pv (.int .i64 offset4)), (4, .pv (.str data5)), (13, .vec 0 (List.length r9)), (14, .pv (.int .i64 r14)), (15, .pv (.int .i64 r15)), (17, .pv (.str r29))] [.tree 74 3 2 76 3 m10 (List.map GEnv.pv r9)] ?_ ?_
          · exact dk1 (an f25.1 (an f25.2.1 (an f28.1 (an f28.2.1 (an pf_56 f31)))))
          refine AW.seq ?_
          replace h := obs h; obtain ⟨t32, q33, h⟩ := h
          have f34 := c_L_Repeat [0] (imax (IntKind.wrap .i64 (offset4 - (r29.length : Int))) 0) t32 q33
          try dsimp only at f34
          try simp only [List.map_cons, List.map_nil, P22_eq, GOp.pv_eq, Var.pv_eq, P72_eq, GEnv.pv_eq] at f34
          replace h := obs h; obtain ⟨s35, q36, h⟩ := h
          have f37 := catO_f q36
          try simp only [List.length_cons, List.length_nil, List.length_replicate, Nat.zero_add, Nat.reduceAdd, Nat.reduceLeDiff, Nat.add_zero, Nat.reduceMul] at f37
          refine AW.reg hS [(3, .pv (.int .i64 offset4)), (4, .pv (.str data5)), (13, .vec 0 (List.length r9)), (14, .pv (.int .i64 r14)), (15, .pv (.int .i64 r15)), (17, .pv (.str s35))] [.tree 74 3 2 76 3 m10 (List.map GEnv.pv r9)] ?_ ?_
          · exact dk1 (an pf_71 (an f34 (an f37.1 f37.2)))
          refine AW.seq ?_
          replace h := obs h; obtain ⟨t38, q39, h⟩ := h
          have f40 := sslice_f q39
          have f40e := f40.2.2.2.2
          try simp only [Int.toNat_natCast, Int.toNat_zero, List.drop_zero] at f40e
          have f40l := f40.2.2.1
          try simp only [Int.toNat_natCast, Int.toNat_zero] at f40l
          replace h := obs h; obtain ⟨s41, q42, h⟩ := h
          have f43 := catO_f q42
          try simp only [List.length_cons, List.length_nil, List.length_replicate, Nat.zero_add, Nat.reduceAdd, Nat.reduceLeDiff, Nat.add_zero, Nat.reduceMul] at f43
          replace h := obs h; obtain ⟨t44, q45, h⟩ := h
          have f46 := sslice_f q45
          have f46e := f46.2.2.2.2
          try simp only [Int.toNat_natCast, Int.toNat_zero, List.drop_zero] at f46e
          have f46l := f46.2.2.1
          try simp only [Int.toNat_natCast, Int.toNat_zero] at f46l
          replace h := obs h; obtain ⟨s47, q48, h⟩ := h
          have f49 := catO_f q48
          try simp only [List.length_cons, List.length_nil, List.length_replicate, Nat.zero_add, Nat.reduceAdd, Nat.reduceLeDiff, Nat.add_zero, Nat.reduceMul] at f49
          replace h := obs h; obtain ⟨⟨r50, r51⟩, q52, h⟩ := h
          dsimp only at h
          have f53 := c_F11 s47 r50 r51 q52
          try dsimp only at f53
          refine AW.dreg mixed hS (hpf ▸ (by kernel_rfl : orderOK pfn _ = true)) [(4, .pv (.str data5)), (13, .vec 0 (List.length r9)), (14, .pv (.int .i64 r14)), (15, .pv (.int .i64 r15)), (16, .pv (.int .i64 r51)), (18, .pv (.slice (List.map PV.str r50)))] [.tree 74 3 2 76 3 m10 (List.map GEnv.pv r9)] ?_ ?_
          · exact dkt1 (an f40.1 (an f40.2.1 (an f40l (an f40.2.2.2.1 (an f40e (an f43.1 (an f43.2 (an f46.1 (an f46.2.1 (an f46l (an f46.2.2.2.1 (an f46e (an f49.1 (an f49.2 (an pf_11 f53)))))))))))))))
          refine AW.seq ?_
          refine AW.seq ?_
          refine AW.reg hS [(4, .pv (.str data5)), (13, .vec 0 (List.length r9)), (14, .pv (.int .i64 r14)), (15, .pv (.int .i64 r15)), (16, .pv (.int .i64 r51)), (18, .pv (.slice (List.map PV.str r50))), (90, .pv (.bool (!decide (r51 = 0))))] [.tree 74 3 2 76 3 m10 (List.map GEnv.pv r9)] ?_ ?_
          · exact dk
          refine AW.cond (b := !decide (r51 = 0)) rfl (fun hb54 => ?_) (fun hb54 => ?_)
          · replace h := bif_t hb54 h
            refine AW.seq ?_
            refine AW.reg hS [(10, .vec 0 (List.length r9)), (11, .pv (.int .i64 0)), (12, .pv (.int .i64 r51))] [.tree 74 3 2 76 3 m10 (List.map GEnv.pv r9)] ?_ ?_
            · exact dk
            refine AW.weak (Weak.treeRow 0 rfl) ?_
            refine AW.weak (σ' := ⟨sl [(10, .vec 0 (List.length r9)), (11, .pv (.int .i64 0)), (12, .pv (.int .i64 r51))], 105, [.row 74 3 (List.map GEnv.pv r9) false]⟩) (Weak.of_eq (Weak.slots (L := [(10, .vec 0 (List.length r9)), (11, .pv (.int .i64 0)), (12, .pv (.int .i64 r51))]) ⟨rfl, rfl, rfl, trivial⟩) (by first | rfl | (simp only [List.length_set, List.length_map]; rfl))) ?_
            refine AW.weak (Weak.freeze 0 rfl) ?_
            refine AW.weak (σ' := ⟨sl [(10, .vec 0 (List.length r9)), (11, .pv (.int .i64 0)), (12, .pv (.int .i64 r51))], 105, [.row 74 3 (List.map GEnv.pv r9) true]⟩) (Weak.slots ⟨rfl, rfl, rfl, trivial⟩) ?_
            refine AW.ret ?_
            cases h
            exact fin
          · replace h := bif_f hb54 h
            refine AW.skip ?_
            refine AW.seq ?_
            replace h := obs h; obtain ⟨u55, q56, h⟩ := h
            have f57 := lidx_f q56
            replace h := obs h; obtain ⟨_, hoq4, h⟩ := h
            have hop4 := ltO_f hoq4
            refine AW.weak (Weak.open 0 (Int.toNat r14) (ys := List.map Var.pv u55.vars_) (cs := [.int .i64 u55.id_, .int .i64 u55.next_, .slice (List.map Var.pv u55.vars_)]) rfl hop4 (by rw [List.getElem?_map, f57.2.1]; rfl) rfl) ?_
            refine AW.weak (σ' := ⟨sl [(4, .pv (.str data5)), (13, .vec 0 (List.length r9)), (14, .pv (.int .i64 r14)), (15, .pv (.int .i64 r15)), (16, .pv (.int .i64 r51)), (18, .pv (.slice (List.map PV.str r50))), (90, .pv (.bool (!decide (r51 = 0))))], 105, [.hrow 74 3 (List.map GEnv.pv r9) (Int.toNat r14) 2 1 (List.length u55.vars_), .row 76 3 (List.map Var.pv u55.vars_) false]⟩) (Weak.of_eq (Weak.slots (L := [(4, .pv (.str data5)), (13, .vec 0 (List.length r9)), (14, .pv (.int .i64 r14)), (15, .pv (.int .i64 r15)), (16, .pv (.int .i64 r51)), (18, .pv (.slice (List.map PV.str r50))), (90, .pv (.bool (!decide (r51 = 0))))]) ⟨rfl, rfl, rfl, rfl, rfl, rfl, rfl, trivial⟩) (by first | rfl | (simp only [List.length_set, List.length_map]; rfl))) ?_
            replace h := obs h; obtain ⟨u58, q59, h⟩ := h
            have f60 := lidx_f q59
            refine AW.reg hS [(4, .pv (.str data5)), (13, .vec 0 (List.length r9))] [.hrow 74 3 (List.map GEnv.pv r9) (Int.toNat r14) 2 1 (List.length u55.vars_), .row 76 3 (List.map Var.pv (List.set u55.vars_ (Int.toNat r15) (Var.mk u58.id_ u58.name_ r50))) false] ?_ ?_
            · exact dk1 (an f57.1 (an f57.2.1 (an f57.2.2 (an f60.1 (an f60.2.1 f60.2.2)))))
            refine AW.seq ?_
            refine AW.reg hS [(10, .vec 0 (List.length r9)), (11, .pv (.int .i64 (data5.length : Int))), (12, .pv (.int .i64 0))] [.hrow 74 3 (List.map GEnv.pv r9) (Int.toNat r14) 2 1 (List.length u55.vars_), .row 76 3 (List.map Var.pv (List.set u55.vars_ (Int.toNat r15) (Var.mk u58.id_ u58.name_ r50))) false] ?_ ?_
            · exact dk
            refine AW.weak (Weak.freeze 1 rfl) ?_
            refine AW.weak (σ' := ⟨sl [(10, .vec 0 (List.length r9)), (11, .pv (.int .i64 (data5.length : Int))), (12, .pv (.int .i64 0))], 105, [.hrow 74 3 (List.map GEnv.pv r9) (Int.toNat r14) 2 1 (List.length u55.vars_), .row 76 3 (List.map Var.pv (List.set u55.vars_ (Int.toNat r15) (Var.mk u58.id_ u58.name_ r50))) true]⟩) (Weak.slots ⟨rfl, rfl, rfl, trivial⟩) ?_
            refine AW.weak (Weak.close 0 (cs := [.int .i64 u55.id_, .int .i64 u55.next_, .slice (List.map Var.pv u55.vars_)]) (xs' := List.map GEnv.pv (List.set r9 (Int.toNat r14) (GEnv.mk u55.id_ u55.next_ (List.set u55.vars_ (Int.toNat r15) (Var.mk u58.id_ u58.name_ r50))))) rfl rfl (by simp only [List.length_map, List.length_set]) (by rw [List.getElem?_map, f57.2.1]; rfl) (by simp only [List.map_set, List.set_cons_succ, List.set_cons_zero, P22_eq, GOp.pv_eq, Var.pv_eq, P72_eq, GEnv.pv_eq])) ?_
            refine AW.weak (σ' := ⟨sl [(10, .vec 0 (List.length (List.set r9 (Int.toNat r14) (GEnv.mk u55.id_ u55.next_ (List.set u55.vars_ (Int.toNat r15) (Var.mk u58.id_ u58.name_ r50)))))), (11, .pv (.int .i64 (data5.length : Int))), (12, .pv (.int .i64 0))], 105, [.row 74 3 (List.map GEnv.pv (List.set r9 (Int.toNat r14) (GEnv.mk u55.id_ u55.next_ (List.set u55.vars_ (Int.toNat r15) (Var.mk u58.id_ u58.name_ r50))))) false, .row 76 3 (List.map Var.pv (List.set u55.vars_ (Int.toNat r15) (Var.mk u58.id_ u58.name_ r50))) true]⟩) (Weak.of_eq (Weak.slots (L := [(10, .vec 0 (List.length r9)), (11, .pv (.int .i64 (data5.length : Int))), (12, .pv (.int .i64 0))]) ⟨rfl, rfl, rfl, trivial⟩) (by first | rfl | (simp only [List.length_set, List.length_map]; rfl))) ?_
            refine AW.weak (Weak.freeze 0 rfl) ?_
            refine AW.weak (σ' := ⟨sl [(10, .vec 0 (List.length (List.set r9 (Int.toNat r14) (GEnv.mk u55.id_ u55.next_ (List.set u55.vars_ (Int.toNat r15) (Var.mk u58.id_ u58.name_ r50)))))), (11, .pv (.int .i64 (data5.length : Int))), (12, .pv (.int .i64 0))], 105, [.row 74 3 (List.map GEnv.pv (List.set r9 (Int.toNat r14) (GEnv.mk u55.id_ u55.next_ (List.set u55.vars_ (Int.toNat r15) (Var.mk u58.id_ u58.name_ r50))))) true, .row 76 3 (List.map Var.pv (List.set u55.vars_ (Int.toNat r15) (Var.mk u58.id_ u58.name_ r50))) true]⟩) (Weak.slots ⟨rfl, rfl, rfl, trivial⟩) ?_
            refine AW.ret ?_
            cases h
            exact fin

set_option maxHeartbeats 4000000 in
theorem g_F83x2 {O : Orc} (hS : Sound env O) (hpf : O.pf = pfn) (c_F84 : C_F84 O) (s1 : List Var) (x2 : Str) (r3 : Int) (h : F83x2 s1 x2 = some r3) : Good env 83 [.pv (.slice (List.map Var.pv s1)), .fn 84 [0]] [.var [.pv (.str x2)]] [.pv (.int .i64 r3)] [.var [.pv (.str x2)]] := by
  have pf_84 : O.pf 84 = false := by rw [hpf]; rfl
  refine Good.start (fn := Tryd.f83) (N := 19) fn_83 rfl rfl (by simp) [] _ rfl rfl ?_
  rw [F83x2] at h
  refine AW.seq ?_
  refine AW.reg hS [(0, .pv (.slice (List.map Var.pv s1))), (1, .fn 84 [0])] [.var [.pv (.str x2)]] ?_ ?_
  · exact dk
  refine AW.seq ?_
  refine AW.seq ?_
  refine AW.reg hS [(0, .pv (.slice (List.map Var.pv s1))), (1, .fn 84 [0]), (7, .pv (.int .i64 (s1.length : Int))), (8, .pv (.int .i64 0))] [.var [.pv (.str x2)]] ?_ ?_
  · exact dk
  refine AW.block ?_
  refine AW.weak (Weak.slots (L := [(0, .pv (.slice (List.map Var.pv s1))), (1, .fn 84 [0]), (7, .pv (.int .i64 (s1.length : Int))), (8, .pv (.int .i64 0))]) ⟨rfl, rfl, rfl, rfl, trivial⟩) ?_
  refine AW.loopI (α := Nat × Int) (fun (_, i4) => ⟨sl [(0, .pv (.slice (List.map Var.pv s1))), (1, .fn 84 [0]), (7, .pv (.int .i64 (s1.length : Int))), (8, .pv (.int .i64 i4))], 19, [.var [.pv (.str x2)]]⟩) (fun x => iter (F83x2_b1 s1 x2) x.1 x.2 = some r3) (fun x => x.1) (BIG, 0) h ?_
  clear h
  intro ⟨n17, i4⟩ h
  replace h := iter_some h; obtain ⟨m7, rfl, h⟩ := h
  rw [F83x2_b1] at h
  try dsimp only at h
  show AW _ _ _ _ ⟨sl [(0, .pv (.slice (List.map Var.pv s1))), (1, .fn 84 [0]), (7, .pv (.int .i64 (s1.length : Int))), (8, .pv (.int .i64 i4))], 19, [.var [.pv (.str x2)]]⟩
  refine AW.seq ?_
  refine AW.reg hS [(0, .pv (.slice (List.map Var.pv s1))), (1, .fn 84 [0]), (7, .pv (.int .i64 (s1.length : Int))), (8, .pv (.int .i64 i4)), (9, .pv (.bool (decide (i4 < (s1.length : Int)))))] [.var [.pv (.str x2)]] ?_ ?_
  · exact dk
  refine AW.seq ?_
  refine AW.cond (b := decide (i4 < (s1.length : Int))) rfl (fun hb8 => ?_) (fun hb8 => ?_)
  · replace h := bif_t hb8 h
    refine AW.skip ?_
    refine AW.seq ?_
    refine AW.block ?_
    refine AW.seq ?_
    refine AW.reg hS [(0, .pv (.slice (List.map Var.pv s1))), (1, .fn 84 [0]), (5, .pv (.int .i64 i4)), (7, .pv (.int .i64 (s1.length : Int))), (8, .pv (.int .i64 i4))] [.var [.pv (.str x2)]] ?_ ?_
    · exact dk
    refine AW.seq ?_
    replace h := obs h; obtain ⟨u9, q10, h⟩ := h
    have f11 := lidx_f q10
    replace h := obs h; obtain ⟨r12, q13, h⟩ := h
    have f14 := c_F84 u9 x2 r12 q13
    try dsimp only at f14
    have e15 : ecall O [.var [.pv (.str x2)]] 84 [.pv (.agg [.int .i64 u9.id_, .str u9.name_, .slice (List.map PV.str u9.values_)]), .ref 0 0] = some (retAV [.pv (.bool r12)], [.var [.pv (.str x2)]]) := ecall_eq rfl rfl rfl f14 rfl rfl rfl
    refine AW.reg hS [(0, .pv (.slice (List.map Var.pv s1))), (1, .fn 84 [0]), (5, .pv (.int .i64 i4)), (7, .pv (.int .i64 (s1.length : Int))), (8, .pv (.int .i64 i4)), (16, .pv (.bool r12))] [.var [.pv (.str x2)]] ?_ ?_
    · exact dk1 (an f11.1 (an f11.2.1 (an pf_84 e15)))
    refine AW.cond (b := r12) rfl (fun hb16 => ?_) (fun hb16 => ?_)
    · replace h := bif_t hb16 h
      refine AW.seq ?_
      refine AW.reg hS [(4, .pv (.int .i64 i4))] [.var [.pv (.str x2)]] ?_ ?_
      · exact dk
      refine AW.ret ?_
      cases h
      exact fin
    · replace h := bif_f hb16 h
      refine AW.skip ?_
      refine AW.reg hS [(0, .pv (.slice (List.map Var.pv s1))), (1, .fn 84 [0]), (7, .pv (.int .i64 (s1.length : Int))), (8, .pv (.int .i64 (IntKind.wrap .i64 (i4 + 1))))] [.var [.pv (.str x2)]] ?_ ?_
      · exact dk
      exact ⟨(m7, IntKind.wrap .i64 (i4 + 1)), h, (Weak.norm (m := 1) (Nat.le_of_ble_eq_true rfl) ⟨rfl, rfl, rfl, rfl, trivial⟩ rfl rfl rfl), Nat.lt_succ_self _⟩
  · replace h := bif_f hb8 h
    refine AW.exit ?_
    refine AW.seq ?_
    refine AW.reg hS [(4, .pv (.int .i64 (-1)))] [.var [.pv (.str x2)]] ?_ ?_
    · exact dk
    refine AW.ret ?_
    cases h
    exact fin

set_option maxHeartbeats 4000000 in
theorem g_F45x1 {O : Orc} (hS : Sound env O) (hpf : O.pf = pfn) (c_F83x2 : C_F83x2 O) (g1 : GEnv) (name2 : Str) (r3 : Int) (h : F45x1 g1 name2 = some r3) : Good env 45 [.pv (.agg [.int .i64 g1.id_, .int .i64 g1.next_, .slice (List.map Var.pv g1.vars_)]), .pv (.str name2)] [] [.pv (.int .i64 r3)] [] := by
  have pf_83 : O.pf 83 = false := by rw [hpf]; rfl
  refine Good.start (fn := Tryd.f45) (N := 9) fn_45 rfl rfl (by simp) [] _ rfl rfl ?_
  rw [F45x1] at h
  refine AW.seq ?_
  refine AW.reg hS [(2, .ref 0 0), (3, .ref 1 0)] [.var [.pv (.int .i64 g1.id_), .pv (.int .i64 g1.next_), .pv (.slice (List.map Var.pv g1.vars_))], .var [.pv (.str name2)]] ?_ ?_
  · exact dk
  refine AW.seq ?_
  replace h := obs h; obtain ⟨r4, q5, h⟩ := h
  have f6 := c_F83x2 g1.vars_ name2 r4 q5
  try dsimp only at f6
  have e7 : ecall O [.var [.pv (.int .i64 g1.id_), .pv (.int .i64 g1.next_), .pv (.slice (List.map Var.pv g1.vars_))], .var [.pv (.str name2)]] 83 [.pv (.slice (List.map Var.pv g1.vars_)), .fn 84 [1]] = some (retAV [.pv (.int .i64 r4)], [.var [.pv (.int .i64 g1.id_), .pv (.int .i64 g1.next_), .pv (.slice (List.map Var.pv g1.vars_))], .var [.pv (.str name2)]]) := ecall_eq rfl rfl rfl f6 rfl rfl rfl
  refine AW.reg hS [(4, .pv (.int .i64 r4))] [.var [.pv (.int .i64 g1.id_), .pv (.int .i64 g1.next_), .pv (.slice (List.map Var.pv g1.vars_))], .var [.pv (.str name2)]] ?_ ?_
  · exact dk1 (an pf_83 e7)
  refine AW.ret ?_
  cases h
  exact fin

set_option maxHeartbeats 4000000 in
theorem g_F19 {O : Orc} (hS : Sound env O) (hpf : O.pf = pfn) (c_F43 : C_F43 O) (c_F45x1 : C_F45x1 O) (c_L_Clone : C_L_Clone O) (l1 : List GEnv) (group2 : Int) (name3 : Str) (r4 : List Str) (r5 : Bool) (h : F19 l1 group2 name3 = some (r4, r5)) : Good env 19 [.pv (.slice (List.map GEnv.pv l1)), .pv (.int .i64 group2), .pv (.str name3)] [] [.pv (.slice (List.map PV.str r4)), .pv (.bool r5)] [] := by
  have pf_43 : O.pf 43 = true := by rw [hpf]; rfl
  have pf_45 : O.pf 45 = false := by rw [hpf]; rfl
  have pf_47 : O.pf 47 = true := by rw [hpf]; rfl
  refine Good.start (fn := Tryd.f19) (N := 33) fn_19 rfl rfl (by simp) [] _ rfl rfl ?_
  rw [F19] at h
  refine AW.seq ?_
  refine AW.reg hS [(0, .pv (.slice (List.map GEnv.pv l1))), (1, .pv (.int .i64 group2)), (2, .pv (.str name3))] [] ?_ ?_
  · exact dk
  refine AW.seq ?_
  replace h := obs h; obtain ⟨r6, q7, h⟩ := h
  have f8 := c_F43 l1 group2 r6 q7
  try dsimp only at f8
  refine AW.reg hS [(0, .pv (.slice (List.map GEnv.pv l1))), (2, .pv (.str name3)), (8, .pv (.int .i64 r6))] [] ?_ ?_
  · exact dk1 (an pf_43 f8)
  refine AW.seq ?_
  refine AW.seq ?_
  refine AW.reg hS [(0, .pv (.slice (List.map GEnv.pv l1))), (2, .pv (.str name3)), (8, .pv (.int .i64 r6)), (14, .pv (.bool (decide (r6 < 0))))] [] ?_ ?_
  · exact dk
  refine AW.cond (b := decide (r6 < 0)) rfl (fun hb9 => ?_) (fun hb9 => ?_)
  · replace h := bif_t hb9 h
    refine AW.seq ?_
    refine AW.reg hS [(6, .nils), (7, .pv (.bool false))] [] ?_ ?_
    · exact dk
    refine AW.ret ?_
    cases h
    exact fin
  · replace h := bif_f hb9 h
    refine AW.skip ?_
    refine AW.seq ?_
    replace h := obs h; obtain ⟨u10, q11, h⟩ := h
    have f12 := lidx_f q11
    replace h := obs h; obtain ⟨r13, q14, h⟩ := h
    have f15 := c_F45x1 u10 name3 r13 q14
    try dsimp only at f15
    have e16 : ecall O [] 45 [.pv (.agg [.int .i64 u10.id_, .int .i64 u10.next_, .slice (List.map Var.pv u10.vars_)]), .pv (.str name3)] = some (retAV [.pv (.int .i64 r13)], []) := ecall_eq rfl rfl rfl f15 rfl rfl rfl
    refine AW.reg hS [(0, .pv (.slice (List.map GEnv.pv l1))), (8, .pv (.int .i64 r6)), (9, .pv (.int .i64 r13))] [] ?_ ?_
    · exact dk1 (an f12.1 (an f12.2.1 (an pf_45 e16)))
    refine AW.seq ?_
    refine AW.seq ?_
    refine AW.reg hS [(0, .pv (.slice (List.map GEnv.pv l1))), (8, .pv (.int .i64 r6)), (9, .pv (.int .i64 r13)), (22, .pv (.bool (decide (r13 < 0))))] [] ?_ ?_
    · exact dk
    refine AW.cond (b := decide (r13 < 0)) rfl (fun hb17 => ?_) (fun hb17 => ?_)
    · replace h := bif_t hb17 h
      refine AW.seq ?_
      refine AW.reg hS [(6, .nils), (7, .pv (.bool false))] [] ?_ ?_
      · exact dk
      refine AW.ret ?_
      cases h
      exact fin
    · replace h := bif_f hb17 h
      refine AW.skip ?_
      refine AW.seq ?_
      replace h := obs h; obtain ⟨u18, q19, h⟩ := h
      have f20 := lidx_f q19
      replace h := obs h; obtain ⟨l21, q22, h⟩ := h
      have f23 := c_L_Clone u18.values_ l21 q22
      try dsimp only at f23
      refine AW.reg hS [(6, .pv (.slice (List.map PV.str l21))), (7, .pv (.bool true))] [] ?_ ?_
      · exact dk1 (an f12.1 (an f12.2.1 (an f20.1 (an f20.2.1 (an pf_47 f23)))))
      refine AW.ret ?_
      cases h
      exact fin

set_option maxHeartbeats 4000000 in
theorem g_F53 {O : Orc} (hS : Sound env O) (hpf : O.pf = pfn) (c_F58 : C_F58 O) (l1 : List GEnv) (group2 : Int) (id3 : Int) (r4 : Int) (r5 : Int) (h : F53 l1 group2 id3 = some (r4, r5)) : Good env 53 [.pv (.slice (List.map GEnv.pv l1)), .pv (.int .i64 group2), .pv (.int .i64 id3)] [] [.pv (.int .i64 r4), .pv (.int .i64 r5)] [] := by
  have pf_58 : O.pf 58 = true := by rw [hpf]; rfl
  refine Good.start (fn := Tryd.f53) (N := 27) fn_53 rfl rfl (by simp) [] _ rfl rfl ?_
  rw [F53] at h
  refine AW.seq ?_
  refine AW.reg hS [(0, .pv (.slice (List.map GEnv.pv l1))), (1, .pv (.int .i64 group2)), (2, .pv (.int .i64 id3))] [] ?_ ?_
  · exact dk
  refine AW.seq ?_
  replace h := obs h; obtain ⟨⟨r6, r7, r8⟩, q9, h⟩ := h
  dsimp only at h
  have f10 := c_F58 l1 group2 id3 r6 r7 r8 q9
  try dsimp only at f10
  refine AW.reg hS [(8, .pv (.int .i64 r6)), (9, .pv (.int .i64 r7)), (10, .pv (.int .i64 r8))] [] ?_ ?_
  · exact dk1 (an pf_58 f10)
  refine AW.seq ?_
  refine AW.seq ?_
  refine AW.reg hS [(8, .pv (.int .i64 r6)), (10, .pv (.int .i64 r8)), (24, .pv (.bool (decide (r8 = 0) && decide (0 ≤ r7))))] [] ?_ ?_
  · clear h
    exact dg
  refine AW.cond (b := (decide (r8 = 0) && decide (0 ≤ r7))) rfl (fun hb11 => ?_) (fun hb11 => ?_)
  · replace h := bif_t hb11 h
    refine AW.seq ?_
    refine AW.reg hS [(6, .pv (.int .i64 0)), (7, .pv (.int .i64 9))] [] ?_ ?_
    · exact dk
    refine AW.ret ?_
    cases h
    exact fin
  · replace h := bif_f hb11 h
    refine AW.skip ?_
    refine AW.seq ?_
    refine AW.reg hS [(6, .pv (.int .i64 r6)), (7, .pv (.int .i64 r8))] [] ?_ ?_
    · exact dk
    refine AW.ret ?_
    cases h
    exact fin

set_option maxHeartbeats 4000000 in
theorem g_F22 {O : Orc} (hS : Sound env O) (hpf : O.pf = pfn) (c_F53 : C_F53 O) (c_F45x1 : C_F45x1 O) (l1 : List GEnv) (group2 : Int) (id3 : Int) (name4 : Str) (r5 : Int) (r6 : Int) (h : F22 l1 group2 id3 name4 = some (r5, r6)) : Good env 22 [.pv (.slice (List.map GEnv.pv l1)), .pv (.int .i64 group2), .pv (.int .i64 id3), .pv (.str name4)] [] [.pv (.int .i64 r5), .pv (.int .i64 r6)] [] := by
  have pf_45 : O.pf 45 = false := by rw [hpf]; rfl
  have pf_53 : O.pf 53 = true := by rw [hpf]; rfl
  refine Good.start (fn := Tryd.f22) (N := 42) fn_22 rfl rfl (by simp) [] _ rfl rfl ?_
  rw [F22] at h
  refine AW.seq ?_
  refine AW.reg hS [(0, .pv (.slice (List.map GEnv.pv l1))), (1, .pv (.int .i64 group2)), (2, .pv (.int .i64 id3)), (3, .pv (.str name4))] [] ?_ ?_
  · exact dk
  refine AW.seq ?_
  replace h := obs h; obtain ⟨⟨r7, r8⟩, q9, h⟩ := h
  dsimp only at h
  have f10 := c_F53 l1 group2 id3 r7 r8 q9
  try dsimp only at f10
  refine AW.reg hS [(0, .pv (.slice (List.map GEnv.pv l1))), (3, .pv (.str name4)), (10, .pv (.int .i64 r7)), (11, .pv (.int .i64 r8))] [] ?_ ?_
  · exact dk1 (an pf_53 f10)
  refine AW.seq ?_
  refine AW.seq ?_
  refine AW.reg hS [(0, .pv (.slice (List.map GEnv.pv l1))), (3, .pv (.str name4)), (10, .pv (.int .i64 r7)), (11, .pv (.int .i64 r8)), (21, .pv (.bool (!decide (r8 = 0))))] [] ?_ ?_
  · exact dk
  refine AW.cond (b := !decide (r8 = 0)) rfl (fun hb11 => ?_) (fun hb11 => ?_)
  · replace h := bif_t hb11 h
    refine AW.seq ?_
    refine AW.reg hS [(8, .pv (.int .i64 0)), (9, .pv (.int .i64 r8))] [] ?_ ?_
    · exact dk
    refine AW.ret ?_
    cases h
    exact fin
  · replace h := bif_f hb11 h
    refine AW.skip ?_
    refine AW.seq ?_
    refine AW.seq ?_
    refine AW.reg hS [(0, .pv (.slice (List.map GEnv.pv l1))), (3, .pv (.str name4)), (10, .pv (.int .i64 r7)), (24, .pv (.bool (decide (name4 = [46, 46]))))] [] ?_ ?_
    · exact dk
    refine AW.cond (b := decide (name4 = [46, 46])) rfl (fun hb12 => ?_) (fun hb12 => ?_)
    · replace h := bif_t hb12 h
      refine AW.seq ?_
      refine AW.reg hS [(8, .pv (.int .i64 1)), (9, .pv (.int .i64 0))] [] ?_ ?_
      · exact dk
      refine AW.ret ?_
      cases h
      exact fin
    · replace h := bif_f hb12 h
      refine AW.skip ?_
      refine AW.seq ?_
      replace h := obs h; obtain ⟨u13, q14, h⟩ := h
      have f15 := lidx_f q14
      replace h := obs h; obtain ⟨r16, q17, h⟩ := h
      have f18 := c_F45x1 u13 name4 r16 q17
      try dsimp only at f18
      have e19 : ecall O [] 45 [.pv (.agg [.int .i64 u13.id_, .int .i64 u13.next_, .slice (List.map Var.pv u13.vars_)]), .pv (.str name4)] = some (retAV [.pv (.int .i64 r16)], []) := ecall_eq rfl rfl rfl f18 rfl rfl rfl
      refine AW.reg hS [(0, .pv (.slice (List.map GEnv.pv l1))), (10, .pv (.int .i64 r7)), (12, .pv (.int .i64 r16))] [] ?_ ?_
      · exact dk1 (an f15.1 (an f15.2.1 (an pf_45 e19)))
      refine AW.seq ?_
      refine AW.seq ?_
      refine AW.reg hS [(0, .pv (.slice (List.map GEnv.pv l1))), (10, .pv (.int .i64 r7)), (12, .pv (.int .i64 r16)), (32, .pv (.bool (decide (r16 < 0))))] [] ?_ ?_
      · exact dk
      refine AW.cond (b := decide (r16 < 0)) rfl (fun hb20 => ?_) (fun hb20 => ?_)
      · replace h := bif_t hb20 h
        refine AW.seq ?_
        refine AW.reg hS [(8, .pv (.int .i64 0)), (9, .pv (.int .i64 8))] [] ?_ ?_
        · exact dk
        refine AW.ret ?_
        cases h
        exact fin
      · replace h := bif_f hb20 h
        refine AW.skip ?_
        refine AW.seq ?_
        replace h := obs h; obtain ⟨u21, q22, h⟩ := h
        have f23 := lidx_f q22
        refine AW.reg hS [(8, .pv (.int .i64 u21.id_)), (9, .pv (.int .i64 0))] [] ?_ ?_
        · exact dk1 (an f15.1 (an f15.2.1 (an f23.1 f23.2.1)))
        refine AW.ret ?_
        cases h
        exact fin

set_option maxHeartbeats 4000000 in
theorem g_F13 {O : Orc} (hS : Sound env O) (hpf : O.pf = pfn) (a1 : List Str) (b2 : List Str) (r3 : Bool) (h : F13 a1 b2 = some r3) : Good env 13 [.pv (.slice (List.map PV.str a1)), .pv (.slice (List.map PV.str b2))] [] [.pv (.bool r3)] [] := by
  refine Good.start (fn := Tryd.f13) (N := 26) fn_13 rfl rfl (by simp) [] _ rfl rfl ?_
  rw [F13] at h
  refine AW.seq ?_
  refine AW.reg hS [(0, .pv (.slice (List.map PV.str a1))), (1, .pv (.slice (List.map PV.str b2)))] [] ?_ ?_
  · exact dk
  refine AW.seq ?_
  refine AW.seq ?_
  refine AW.reg hS [(0, .pv (.slice (List.map PV.str a1))), (1, .pv (.slice (List.map PV.str b2))), (10, .pv (.bool (!decide ((a1.length : Int) = (b2.length : Int)))))] [] ?_ ?_
  · exact dk
  refine AW.cond (b := !decide ((a1.length : Int) = (b2.length : Int))) rfl (fun hb4 => ?_) (fun hb4 => ?_)
  · replace h := bif_t hb4 h
    refine AW.seq ?_
    refine AW.reg hS [(4, .pv (.bool false))] [] ?_ ?_
    · exact dk
    refine AW.ret ?_
    cases h
    exact fin
  · replace h := bif_f hb4 h
    refine AW.skip ?_
    refine AW.seq ?_
    refine AW.seq ?_
    refine AW.reg hS [(0, .pv (.slice (List.map PV.str a1))), (1, .pv (.slice (List.map PV.str b2))), (5, .pv (.int .i64 0))] [] ?_ ?_
    · exact dk
    refine AW.block ?_
    refine AW.weak (Weak.slots (L := [(0, .pv (.slice (List.map PV.str a1))), (1, .pv (.slice (List.map PV.str b2))), (5, .pv (.int .i64 0))]) ⟨rfl, rfl, rfl, trivial⟩) ?_
    refine AW.loopI (α := Nat × Int) (fun (_, i5) => ⟨sl [(0, .pv (.slice (List.map PV.str a1))), (1, .pv (.slice (List.map PV.str b2))), (5, .pv (.int .i64 i5))], 26, []⟩) (fun x => iter (F13_b1 a1 b2) x.1 x.2 = some r3) (fun x => x.1) (BIG, 0) h ?_
    clear h
    intro ⟨n17, i5⟩ h
    replace h := iter_some h; obtain ⟨m8, rfl, h⟩ := h
    rw [F13_b1] at h
    try dsimp only at h
    show AW _ _ _ _ ⟨sl [(0, .pv (.slice (List.map PV.str a1))), (1, .pv (.slice (List.map PV.str b2))), (5, .pv (.int .i64 i5))], 26, []⟩
    refine AW.seq ?_
    refine AW.seq ?_
    refine AW.reg hS [(0, .pv (.slice (List.map PV.str a1))), (1, .pv (.slice (List.map PV.str b2))), (5, .pv (.int .i64 i5)), (14, .pv (.bool (decide (i5 < (a1.length : Int)))))] [] ?_ ?_
    · exact dk
    refine AW.cond (b := decide (i5 < (a1.length : Int))) rfl (fun hb9 => ?_) (fun hb9 => ?_)
    · replace h := bif_t hb9 h
      refine AW.skip ?_
      refine AW.seq ?_
      refine AW.block ?_
      refine AW.seq ?_
      replace h := obs h; obtain ⟨w10, q11, h⟩ := h
      have f12 := lidx_f q11
      replace h := obs h; obtain ⟨w13, q14, h⟩ := h
      have f15 := lidx_f q14
      refine AW.dreg mixed hS (hpf ▸ (by kernel_rfl : orderOK pfn _ = true)) [(0, .pv (.slice (List.map PV.str a1))), (1, .pv (.slice (List.map PV.str b2))), (5, .pv (.int .i64 i5)), (25, .pv (.bool (!decide (w10 = w13))))] [] ?_ ?_
      · exact dk1 (an f12.1 (an f12.2.1 (an f15.1 f15.2.1)))
      refine AW.cond (b := !decide (w10 = w13)) rfl (fun hb16 => ?_) (fun hb16 => ?_)
      · replace h := bif_t hb16 h
        refine AW.seq ?_
        refine AW.reg hS [(4, .pv (.bool false))] [] ?_ ?_
        · exact dk
        refine AW.ret ?_
        cases h
        exact fin
      · replace h := bif_f hb16 h
        refine AW.skip ?_
        refine AW.reg hS [(0, .pv (.slice (List.map PV.str a1))), (1, .pv (.slice (List.map PV.str b2))), (5, .pv (.int .i64 (IntKind.wrap .i64 (i5 + 1))))] [] ?_ ?_
        · exact dk
        exact ⟨(m8, IntKind.wrap .i64 (i5 + 1)), h, (Weak.norm (m := 0) (Nat.le_of_ble_eq_true rfl) ⟨rfl, rfl, rfl, trivial⟩ rfl rfl rfl), Nat.lt_succ_self _⟩
    · replace h := bif_f hb9 h
      refine AW.exit ?_
      refine AW.seq ?_
      refine AW.reg hS [(4, .pv (.bool true))] [] ?_ ?_
      · exact dk
      refine AW.ret ?_
      cases h
      exact fin

set_option maxHeartbeats 4000000 in
theorem g_F50 {O : Orc} (hS : Sound env O) (hpf : O.pf = pfn) (c_F44 : C_F44 O) (c_F45x1 : C_F45x1 O) (c_F9 : C_F9 O) (g1 : GEnv) (r2 : Bool) (h : F50 g1 = some r2) : Good env 50 [.pv (.agg [.int .i64 g1.id_, .int .i64 g1.next_, .slice (List.map Var.pv g1.vars_)])] [] [.pv (.bool r2)] [] := by
  have pf_9 : O.pf 9 = true := by rw [hpf]; rfl
  have pf_44 : O.pf 44 = true := by rw [hpf]; rfl
  have pf_45 : O.pf 45 = false := by rw [hpf]; rfl
  refine Good.start (fn := Tryd.f50) (N := 88) fn_50 rfl rfl (by simp) [] _ rfl rfl ?_
  rw [F50] at h
  refine AW.seq ?_
  refine AW.reg hS [(1, .ref 0 0)] [.var [.pv (.int .i64 g1.id_), .pv (.int .i64 g1.next_), .pv (.slice (List.map Var.pv g1.vars_))]] ?_ ?_
  · exact dk
  refine AW.seq ?_
  refine AW.seq ?_
  refine AW.reg hS [(1, .ref 0 0), (30, .pv (.bool ((((decide (g1.id_ < 1) || decide (1099511627776 < g1.id_)) || decide (g1.next_ < 2)) || decide (1048576 < g1.next_)) || decide (64 < (g1.vars_.length : Int)))))] [.var [.pv (.int .i64 g1.id_), .pv (.int .i64 g1.next_), .pv (.slice (List.map Var.pv g1.vars_))]] ?_ ?_
  · clear h
    exact dg
  refine AW.cond (b := ((((decide (g1.id_ < 1) || decide (1099511627776 < g1.id_)) || decide (g1.next_ < 2)) || decide (1048576 < g1.next_)) || decide (64 < (g1.vars_.length : Int)))) rfl (fun hb3 => ?_) (fun hb3 => ?_)
  · replace h := bif_t hb3 h
    refine AW.seq ?_
    refine AW.reg hS [(2, .pv (.bool false))] [.var [.pv (.int .i64 g1.id_), .pv (.int .i64 g1.next_), .pv (.slice (List.map Var.pv g1.vars_))]] ?_ ?_
    · exact dk
    refine AW.ret ?_
    cases h
    exact fin
  · replace h := bif_f hb3 h
    refine AW.skip ?_
    refine AW.seq ?_
    refine AW.seq ?_
    refine AW.reg hS [(1, .ref 0 0), (32, .pv (.slice (List.map Var.pv g1.vars_))), (33, .pv (.int .i64 (g1.vars_.length : Int))), (34, .pv (.int .i64 0))] [.var [.pv (.int .i64 g1.id_), .pv (.int .i64 g1.next_), .pv (.slice (List.map Var.pv g1.vars_))]] ?_ ?_
    · exact dk
    refine AW.block ?_
    refine AW.weak (Weak.slots (L := [(1, .ref 0 0), (32, .pv (.slice (List.map Var.pv g1.vars_))), (33, .pv (.int .i64 (g1.vars_.length : Int))), (34, .pv (.int .i64 0))]) ⟨rfl, rfl, rfl, rfl, trivial⟩) ?_
    refine AW.loopI (α := Nat × Int) (fun (_, i4) => ⟨sl [(1, .ref 0 0), (32, .pv (.slice (List.map Var.pv g1.vars_))), (33, .pv (.int .i64 (g1.vars_.length : Int))), (34, .pv (.int .i64 i4))], 88, [.var [.pv (.int .i64 g1.id_), .pv (.int .i64 g1.next_), .pv (.slice (List.map Var.pv g1.vars_))]]⟩) (fun x => iter (F50_b1 g1) x.1 x.2 = some r2) (fun x => x.1) (BIG, 0) h ?_
    clear h
    intro ⟨n28, i4⟩ h
    replace h := iter_some h; obtain ⟨m7, rfl, h⟩ := h
    rw [F50_b1] at h
    try dsimp only at h
    show AW _ _ _ _ ⟨sl [(1, .ref 0 0), (32, .pv (.slice (List.map Var.pv g1.vars_))), (33, .pv (.int .i64 (g1.vars_.length : Int))), (34, .pv (.int .i64 i4))], 88, [.var [.pv (.int .i64 g1.id_), .pv (.int .i64 g1.next_), .pv (.slice (List.map Var.pv g1.vars_))]]⟩
    refine AW.seq ?_
    refine AW.reg hS [(1, .ref 0 0), (32, .pv (.slice (List.map Var.pv g1.vars_))), (33, .pv (.int .i64 (g1.vars_.length : Int))), (34, .pv (.int .i64 i4)), (35, .pv (.bool (decide (i4 < (g1.vars_.length : Int)))))] [.var [.pv (.int .i64 g1.id_), .pv (.int .i64 g1.next_), .pv (.slice (List.map Var.pv g1.vars_))]] ?_ ?_
    · exact dk
    refine AW.seq ?_
    refine AW.cond (b := decide (i4 < (g1.vars_.length : Int))) rfl (fun hb8 => ?_) (fun hb8 => ?_)
    · replace h := bif_t hb8 h
      refine AW.skip ?_
      refine AW.seq ?_
      refine AW.block ?_
      refine AW.seq ?_
      replace h := obs h; obtain ⟨u9, q10, h⟩ := h
      have f11 := lidx_f q10
      refine AW.reg hS [(1, .ref 0 0), (3, .pv (.int .i64 i4)), (4, .ref 1 0), (32, .pv (.slice (List.map Var.pv g1.vars_))), (33, .pv (.int .i64 (g1.vars_.length : Int))), (34, .pv (.int .i64 i4))] [.var [.pv (.int .i64 g1.id_), .pv (.int .i64 g1.next_), .pv (.slice (List.map Var.pv g1.vars_))], .var [.pv (.int .i64 u9.id_), .pv (.str u9.name_), .pv (.slice (List.map PV.str u9.values_))]] ?_ ?_
      · exact dk1 (an f11.1 f11.2.1)
      refine AW.seq ?_
      refine AW.seq ?_
      replace h := obs h; obtain ⟨u12, q13, h⟩ := h
      have f14 := lidx_g (guardO_t q13)
      replace h := obs h; obtain ⟨r15, q16, h⟩ := h
      have f17 := fun hg => c_F44 u9.name_ r15 (guardO_t q16 hg)
      try dsimp only at f17
      refine AW.cases ((((decide (u9.id_ < 2) || decide (g1.next_ ≤ u9.id_)) || (decide (0 < i4) && decide (u9.id_ ≤ u12.id_))) || !r15)) (fun hsp8 => ?_) (fun hsp8 => ?_)
      · replace h := bif_t hsp8 h
        refine AW.dreg mixed hS (hpf ▸ (by kernel_rfl : orderOK pfn _ = true)) [(1, .ref 0 0), (4, .ref 1 0), (32, .pv (.slice (List.map Var.pv g1.vars_))), (33, .pv (.int .i64 (g1.vars_.length : Int))), (34, .pv (.int .i64 i4)), (78, .pv (.bool true))] [.var [.pv (.int .i64 g1.id_), .pv (.int .i64 g1.next_), .pv (.slice (List.map Var.pv g1.vars_))], .var [.pv (.int .i64 u9.id_), .pv (.str u9.name_), .pv (.slice (List.map PV.str u9.values_))]] ?_ ?_
        · clear h
          exact dg1 (an f14.1 (an f14.2.1 (an pf_44 (an f17 hsp8))))
        refine AW.cond (b := true) rfl (fun _ => ?_) (fun hb => absurd hb (by decide))
        refine AW.seq ?_
        refine AW.reg hS [(2, .pv (.bool false))] [.var [.pv (.int .i64 g1.id_), .pv (.int .i64 g1.next_), .pv (.slice (List.map Var.pv g1.vars_))], .var [.pv (.int .i64 u9.id_), .pv (.str u9.name_), .pv (.slice (List.map PV.str u9.values_))]] ?_ ?_
        · exact dk
        refine AW.ret ?_
        cases h
        exact fin
      · replace h := bif_f hsp8 h
        replace h := obs h; obtain ⟨r18, q19, h⟩ := h
        have f20 := c_F45x1 g1 u9.name_ r18 q19
        try dsimp only at f20
        have e21 : ecall O [.var [.pv (.int .i64 g1.id_), .pv (.int .i64 g1.next_), .pv (.slice (List.map Var.pv g1.vars_))], .var [.pv (.int .i64 u9.id_), .pv (.str u9.name_), .pv (.slice (List.map PV.str u9.values_))]] 45 [.pv (.agg [.int .i64 g1.id_, .int .i64 g1.next_, .slice (List.map Var.pv g1.vars_)]), .pv (.str u9.name_)] = some (retAV [.pv (.int .i64 r18)], [.var [.pv (.int .i64 g1.id_), .pv (.int .i64 g1.next_), .pv (.slice (List.map Var.pv g1.vars_))], .var [.pv (.int .i64 u9.id_), .pv (.str u9.name_), .pv (.slice (List.map PV.str u9.values_))]]) := ecall_eq rfl rfl rfl f20 rfl rfl rfl
        refine AW.dreg mixed hS (hpf ▸ (by kernel_rfl : orderOK pfn _ = true)) [(1, .ref 0 0), (4, .ref 1 0), (32, .pv (.slice (List.map Var.pv g1.vars_))), (33, .pv (.int .i64 (g1.vars_.length : Int))), (34, .pv (.int .i64 i4)), (78, .pv (.bool (!decide (r18 = i4))))] [.var [.pv (.int .i64 g1.id_), .pv (.int .i64 g1.next_), .pv (.slice (List.map Var.pv g1.vars_))], .var [.pv (.int .i64 u9.id_), .pv (.str u9.name_), .pv (.slice (List.map PV.str u9.values_))]] ?_ ?_
        · clear h
          exact dg1 (an f14.1 (an f14.2.1 (an pf_44 (an f17 (an hsp8 (an pf_45 e21))))))
        refine AW.cond (b := !decide (r18 = i4)) rfl (fun hb22 => ?_) (fun hb22 => ?_)
        · replace h := bif_t hb22 h
          refine AW.seq ?_
          refine AW.reg hS [(2, .pv (.bool false))] [.var [.pv (.int .i64 g1.id_), .pv (.int .i64 g1.next_), .pv (.slice (List.map Var.pv g1.vars_))], .var [.pv (.int .i64 u9.id_), .pv (.str u9.name_), .pv (.slice (List.map PV.str u9.values_))]] ?_ ?_
          · exact dk
          refine AW.ret ?_
          cases h
          exact fin
        · replace h := bif_f hb22 h
          refine AW.skip ?_
          refine AW.seq ?_
          replace h := obs h; obtain ⟨⟨r23, r24⟩, q25, h⟩ := h
          dsimp only at h
          have f26 := c_F9 u9.values_ r23 r24 q25
          try dsimp only at f26
          refine AW.reg hS [(1, .ref 0 0), (6, .pv (.int .i64 r24)), (32, .pv (.slice (List.map Var.pv g1.vars_))), (33, .pv (.int .i64 (g1.vars_.length : Int))), (34, .pv (.int .i64 i4))] [.var [.pv (.int .i64 g1.id_), .pv (.int .i64 g1.next_), .pv (.slice (List.map Var.pv g1.vars_))], .var [.pv (.int .i64 u9.id_), .pv (.str u9.name_), .pv (.slice (List.map PV.str u9.values_))]] ?_ ?_
          · exact dk1 (an pf_9 f26)
          refine AW.seq ?_
          refine AW.reg hS [(1, .ref 0 0), (32, .pv (.slice (List.map Var.pv g1.vars_))), (33, .pv (.int .i64 (g1.vars_.length : Int))), (34, .pv (.int .i64 i4)), (86, .pv (.bool (!decide (r24 = 0))))] [.var [.pv (.int .i64 g1.id_), .pv (.int .i64 g1.next_), .pv (.slice (List.map Var.pv g1.vars_))], .var [.pv (.int .i64 u9.id_), .pv (.str u9.name_), .pv (.slice (List.map PV.str u9.values_))]] ?_ ?_
          · exact dk
          refine AW.cond (b := !decide (r24 = 0)) rfl (fun hb27 => ?_) (fun hb27 => ?_)
          · replace h := bif_t hb27 h
            refine AW.seq ?_
            refine AW.reg hS [(2, .pv (.bool false))] [.var [.pv (.int .i64 g1.id_), .pv (.int .i64 g1.next_), .pv (.slice (List.map Var.pv g1.vars_))], .var [.pv (.int .i64 u9.id_), .pv (.str u9.name_), .pv (.slice (List.map PV.str u9.values_))]] ?_ ?_
            · exact dk
            refine AW.ret ?_
            cases h
            exact fin
          · replace h := bif_f hb27 h
            refine AW.skip ?_
            refine AW.reg hS [(1, .ref 0 0), (32, .pv (.slice (List.map Var.pv g1.vars_))), (33, .pv (.int .i64 (g1.vars_.length : Int))), (34, .pv (.int .i64 (IntKind.wrap .i64 (i4 + 1))))] [.var [.pv (.int .i64 g1.id_), .pv (.int .i64 g1.next_), .pv (.slice (List.map Var.pv g1.vars_))], .var [.pv (.int .i64 u9.id_), .pv (.str u9.name_), .pv (.slice (List.map PV.str u9.values_))]] ?_ ?_
            · exact dk
            exact ⟨(m7, IntKind.wrap .i64 (i4 + 1)), h, (Weak.norm (m := 1) (Nat.le_of_ble_eq_true rfl) ⟨rfl, rfl, rfl, rfl, trivial⟩ rfl rfl rfl), Nat.lt_succ_self _⟩
    · replace h := bif_f hb8 h
      refine AW.exit ?_
      refine AW.seq ?_
      refine AW.reg hS [(2, .pv (.bool true))] [.var [.pv (.int .i64 g1.id_), .pv (.int .i64 g1.next_), .pv (.slice (List.map Var.pv g1.vars_))]] ?_ ?_
      · exact dk
      refine AW.ret ?_
      cases h
      exact fin

set_option maxHeartbeats 4000000 in
theorem g_F20 {O : Orc} (hS : Sound env O) (hpf : O.pf = pfn) (c_F50 : C_F50 O) (l1 : List GEnv) (r2 : Bool) (h : F20 l1 = some r2) : Good env 20 [.pv (.slice (List.map GEnv.pv l1))] [] [.pv (.bool r2)] [] := by
  have pf_50 : O.pf 50 = true := by rw [hpf]; rfl
  refine Good.start (fn := Tryd.f20) (N := 34) fn_20 rfl rfl (by simp) [] _ rfl rfl ?_
  rw [F20] at h
  refine AW.seq ?_
  refine AW.reg hS [(0, .pv (.slice (List.map GEnv.pv l1)))] [] ?_ ?_
  · exact dk
  refine AW.seq ?_
  refine AW.seq ?_
  refine AW.reg hS [(0, .pv (.slice (List.map GEnv.pv l1))), (7, .pv (.bool (decide (64 < (l1.length : Int)))))] [] ?_ ?_
  · exact dk
  refine AW.cond (b := decide (64 < (l1.length : Int))) rfl (fun hb3 => ?_) (fun hb3 => ?_)
  · replace h := bif_t hb3 h
    refine AW.seq ?_
    refine AW.reg hS [(2, .pv (.bool false))] [] ?_ ?_
    · exact dk
    refine AW.ret ?_
    cases h
    exact fin
  · replace h := bif_f hb3 h
    refine AW.skip ?_
    refine AW.seq ?_
    refine AW.seq ?_
    refine AW.reg hS [(0, .pv (.slice (List.map GEnv.pv l1))), (8, .pv (.slice (List.map GEnv.pv l1))), (9, .pv (.int .i64 (l1.length : Int))), (10, .pv (.int .i64 0))] [] ?_ ?_
    · exact dk
    refine AW.block ?_
    refine AW.weak (Weak.slots (L := [(0, .pv (.slice (List.map GEnv.pv l1))), (8, .pv (.slice (List.map GEnv.pv l1))), (9, .pv (.int .i64 (l1.length : Int))), (10, .pv (.int .i64 0))]) ⟨rfl, rfl, rfl, rfl, trivial⟩) ?_
    refine AW.loopI (α := Nat × Int) (fun (_, i4) => ⟨sl [(0, .pv (.slice (List.map GEnv.pv l1))), (8, .pv (.slice (List.map GEnv.pv l1))), (9, .pv (.int .i64 (l1.length : Int))), (10, .pv (.int .i64 i4))], 34, []⟩) (fun x => iter (F20_b1 l1) x.1 x.2 = some r2) (fun x => x.1) (BIG, 0) h ?_
    clear h
    intro ⟨n19, i4⟩ h
    replace h := iter_some h; obtain ⟨m7, rfl, h⟩ := h
    rw [F20_b1] at h
    try dsimp only at h
    show AW _ _ _ _ ⟨sl [(0, .pv (.slice (List.map GEnv.pv l1))), (8, .pv (.slice (List.map GEnv.pv l1))), (9, .pv (.int .i64 (l1.length : Int))), (10, .pv (.int .i64 i4))], 34, []⟩
    refine AW.seq ?_
    refine AW.reg hS [(0, .pv (.slice (List.map GEnv.pv l1))), (8, .pv (.slice (List.map GEnv.pv l1))), (9, .pv (.int .i64 (l1.length : Int))), (10, .pv (.int .i64 i4)), (11, .pv (.bool (decide (i4 < (l1.length : Int)))))] [] ?_ ?_
    · exact dk
    refine AW.seq ?_
    refine AW.cond (b := decide (i4 < (l1.length : Int))) rfl (fun hb8 => ?_) (fun hb8 => ?_)
    · replace h := bif_t hb8 h
      refine AW.skip ?_
      refine AW.seq ?_
      refine AW.block ?_
      refine AW.seq ?_
      replace h := obs h; obtain ⟨u9, q10, h⟩ := h
      have f11 := lidx_f q10
      refine AW.reg hS [(0, .pv (.slice (List.map GEnv.pv l1))), (3, .pv (.int .i64 i4)), (4, .ref 0 0), (8, .pv (.slice (List.map GEnv.pv l1))), (9, .pv (.int .i64 (l1.length : Int))), (10, .pv (.int .i64 i4))] [.var [.pv (.int .i64 u9.id_), .pv (.int .i64 u9.next_), .pv (.slice (List.map Var.pv u9.vars_))]] ?_ ?_
      · exact dk1 (an f11.1 f11.2.1)
      refine AW.seq ?_
      replace h := obs h; obtain ⟨u12, q13, h⟩ := h
      have f14 := lidx_g (guardO_t q13)
      replace h := obs h; obtain ⟨r15, q16, h⟩ := h
      have f17 := fun hg => c_F50 u9 r15 (guardO_t q16 hg)
      try dsimp only at f17
      refine AW.dreg mixed hS (hpf ▸ (by kernel_rfl : orderOK pfn _ = true)) [(0, .pv (.slice (List.map GEnv.pv l1))), (8, .pv (.slice (List.map GEnv.pv l1))), (9, .pv (.int .i64 (l1.length : Int))), (10, .pv (.int .i64 i4)), (32, .pv (.bool ((decide (0 < i4) && decide (u9.id_ ≤ u12.id_)) || !r15)))] [.var [.pv (.int .i64 u9.id_), .pv (.int .i64 u9.next_), .pv (.slice (List.map Var.pv u9.vars_))]] ?_ ?_
      · clear h
        exact dg1 (an f14.1 (an f14.2.1 (an pf_50 f17)))
      refine AW.cond (b := ((decide (0 < i4) && decide (u9.id_ ≤ u12.id_)) || !r15)) rfl (fun hb18 => ?_) (fun hb18 => ?_)
      · replace h := bif_t hb18 h
        refine AW.seq ?_
        refine AW.reg hS [(2, .pv (.bool false))] [.var [.pv (.int .i64 u9.id_), .pv (.int .i64 u9.next_), .pv (.slice (List.map Var.pv u9.vars_))]] ?_ ?_
        · exact dk
        refine AW.ret ?_
        cases h
        exact fin
      · replace h := bif_f hb18 h
        refine AW.skip ?_
        refine AW.reg hS [(0, .pv (.slice (List.map GEnv.pv l1))), (8, .pv (.slice (List.map GEnv.pv l1))), (9, .pv (.int .i64 (l1.length : Int))), (10, .pv (.int .i64 (IntKind.wrap .i64 (i4 + 1))))] [.var [.pv (.int .i64 u9.id_), .pv (.int .i64 u9.next_), .pv (.slice (List.map Var.pv u9.vars_))]] ?_ ?_
        · exact dk
        exact ⟨(m7, IntKind.wrap .i64 (i4 + 1)), h, (Weak.norm (m := 0) (Nat.le_of_ble_eq_true rfl) ⟨rfl, rfl, rfl, rfl, trivial⟩ rfl rfl rfl), Nat.lt_succ_self _⟩
    · replace h := bif_f hb8 h
      refine AW.exit ?_
      refine AW.seq ?_
      refine AW.reg hS [(2, .pv (.bool true))] [] ?_ ?_
      · exact dk
      refine AW.ret ?_
      cases h
      exact fin

set_option maxHeartbeats 4000000 in
theorem g_F8 {O : Orc} (hS : Sound env O) (hpf : O.pf = pfn) (c_F32 : C_F32 O) (c_F17 : C_F17 O) (c_F24 : C_F24 O) (c_F33 : C_F33 O) (c_F19 : C_F19 O) (c_F22 : C_F22 O) (c_F11 : C_F11 O) (c_F13 : C_F13 O) (c_F20 : C_F20 O)  (r1 : Bool) (h : F8 = some r1) : Good env 8 [] [] [.pv (.bool r1)] [] := by
  have pf_11 : O.pf 11 = true := by rw [hpf]; rfl
  have pf_13 : O.pf 13 = true := by rw [hpf]; rfl
  have pf_17 : O.pf 17 = true := by rw [hpf]; rfl
  have pf_19 : O.pf 19 = true := by rw [hpf]; rfl
  have pf_20 : O.pf 20 = true := by rw [hpf]; rfl
  have pf_22 : O.pf 22 = true := by rw [hpf]; rfl
  have pf_24 : O.pf 24 = true := by rw [hpf]; rfl
  have pf_32 : O.pf 32 = true := by rw [hpf]; rfl
  have pf_33 : O.pf 33 = true := by rw [hpf]; rfl
  refine Good.start (fn := Tryd.f8) (N := 150) fn_8 rfl rfl (by simp) [] _ rfl rfl ?_
  rw [F8] at h
  refine AW.seq ?_
  refine AW.reg hS [] [] ?_ ?_
  · exact dk
  refine AW.seq ?_
  replace h := obs h; obtain ⟨⟨r2, r3⟩, q4, h⟩ := h
  dsimp only at h
  have f5 := c_F32 [] 0 1 r2 r3 q4
  try dsimp only at f5
  try simp only [List.map_cons, List.map_nil, P22_eq, GOp.pv_eq, Var.pv_eq, P72_eq, GEnv.pv_eq] at f5
  refine AW.reg hS [(1, .pv (.slice (List.map GEnv.pv r2))), (2, .pv (.int .i64 r3))] [] ?_ ?_
  · exact dk1 (an pf_32 f5)
  refine AW.seq ?_
  replace h := obs h; obtain ⟨⟨r6, r7⟩, q8, h⟩ := h
  dsimp only at h
  have f9 := c_F17 r2 1 [120] [[49], [50]] r6 r7 q8
  try dsimp only at f9
  try simp only [List.map_cons, List.map_nil, P22_eq, GOp.pv_eq, Var.pv_eq, P72_eq, GEnv.pv_eq] at f9
  refine AW.reg hS [(1, .pv (.slice (List.map GEnv.pv r6))), (2, .pv (.int .i64 r3)), (3, .pv (.int .i64 r7))] [] ?_ ?_
  · exact dk1 (an pf_17 f9)
  refine AW.seq ?_
  replace h := obs h; obtain ⟨⟨r10, r11⟩, q12, h⟩ := h
  dsimp only at h
  have f13 := c_F17 r6 1 [97, 47, 98] [] r10 r11 q12
  try dsimp only at f13
  try simp only [List.map_cons, List.map_nil, P22_eq, GOp.pv_eq, Var.pv_eq, P72_eq, GEnv.pv_eq] at f13
  refine AW.reg hS [(1, .pv (.slice (List.map GEnv.pv r6))), (2, .pv (.int .i64 r3)), (3, .pv (.int .i64 r7)), (5, .pv (.int .i64 r11))] [] ?_ ?_
  · exact dk1 (an pf_17 f13)
  refine AW.seq ?_
  replace h := obs h; obtain ⟨⟨r14, r15⟩, q16, h⟩ := h
  dsimp only at h
  have f17 := c_F24 r6 1 2 1 9 r14 r15 q16
  try dsimp only at f17
  refine AW.reg hS [(1, .pv (.slice (List.map GEnv.pv r6))), (2, .pv (.int .i64 r3)), (3, .pv (.int .i64 r7)), (5, .pv (.int .i64 r11)), (6, .pv (.str r14)), (7, .pv (.int .i64 r15))] [] ?_ ?_
  · exact dk1 (an pf_24 f17)
  refine AW.seq ?_
  replace h := obs h; obtain ⟨⟨r18, r19, r20⟩, q21, h⟩ := h
  dsimp only at h
  have f22 := c_F33 r6 1 2 0 [121] r18 r19 r20 q21
  try dsimp only at f22
  try simp only [List.map_cons, List.map_nil, P22_eq, GOp.pv_eq, Var.pv_eq, P72_eq, GEnv.pv_eq] at f22
  refine AW.reg hS [(2, .pv (.int .i64 r3)), (3, .pv (.int .i64 r7)), (5, .pv (.int .i64 r11)), (6, .pv (.str r14)), (7, .pv (.int .i64 r15)), (8, .pv (.slice (List.map GEnv.pv r18))), (9, .pv (.int .i64 r19)), (10, .pv (.int .i64 r20))] [] ?_ ?_
  · exact dk1 (an pf_33 f22)
  refine AW.seq ?_
  replace h := obs h; obtain ⟨⟨r23, r24⟩, q25, h⟩ := h
  dsimp only at h
  have f26 := c_F19 r18 1 [120] r23 r24 q25
  try dsimp only at f26
  try simp only [List.map_cons, List.map_nil, P22_eq, GOp.pv_eq, Var.pv_eq, P72_eq, GEnv.pv_eq] at f26
  refine AW.reg hS [(2, .pv (.int .i64 r3)), (3, .pv (.int .i64 r7)), (5, .pv (.int .i64 r11)), (6, .pv (.str r14)), (7, .pv (.int .i64 r15)), (8, .pv (.slice (List.map GEnv.pv r18))), (9, .pv (.int .i64 r19)), (10, .pv (.int .i64 r20)), (11, .pv (.slice (List.map PV.str r23))), (12, .pv (.bool r24))] [] ?_ ?_
  · exact dk1 (an pf_19 f26)
  refine AW.seq ?_
  replace h := obs h; obtain ⟨⟨r27, r28⟩, q29, h⟩ := h
  dsimp only at h
  have f30 := c_F17 r18 1 [120] [] r27 r28 q29
  try dsimp only at f30
  try simp only [List.map_cons, List.map_nil, P22_eq, GOp.pv_eq, Var.pv_eq, P72_eq, GEnv.pv_eq] at f30
  refine AW.reg hS [(2, .pv (.int .i64 r3)), (3, .pv (.int .i64 r7)), (5, .pv (.int .i64 r11)), (6, .pv (.str r14)), (7, .pv (.int .i64 r15)), (8, .pv (.slice (List.map GEnv.pv r27))), (9, .pv (.int .i64 r19)), (10, .pv (.int .i64 r20)), (11, .pv (.slice (List.map PV.str r23))), (12, .pv (.bool r24)), (13, .pv (.int .i64 r28))] [] ?_ ?_
  · exact dk1 (an pf_17 f30)
  refine AW.seq ?_
  replace h := obs h; obtain ⟨⟨r31, r32⟩, q33, h⟩ := h
  dsimp only at h
  have f34 := c_F19 r27 1 [120] r31 r32 q33
  try dsimp only at f34
  try simp only [List.map_cons, List.map_nil, P22_eq, GOp.pv_eq, Var.pv_eq, P72_eq, GEnv.pv_eq] at f34
  refine AW.reg hS [(2, .pv (.int .i64 r3)), (3, .pv (.int .i64 r7)), (5, .pv (.int .i64 r11)), (6, .pv (.str r14)), (7, .pv (.int .i64 r15)), (8, .pv (.slice (List.map GEnv.pv r27))), (9, .pv (.int .i64 r19)), (10, .pv (.int .i64 r20)), (11, .pv (.slice (List.map PV.str r23))), (12, .pv (.bool r24)), (13, .pv (.int .i64 r28)), (15, .pv (.bool r32))] [] ?_ ?_
  · exact dk1 (an pf_19 f34)
  refine AW.seq ?_
  replace h := obs h; obtain ⟨⟨r35, r36⟩, q37, h⟩ := h
  dsimp only at h
  have f38 := c_F17 r27 1 [120] [[50]] r35 r36 q37
  try dsimp only at f38
  try simp only [List.map_cons, List.map_nil, P22_eq, GOp.pv_eq, Var.pv_eq, P72_eq, GEnv.pv_eq] at f38
  refine AW.reg hS [(2, .pv (.int .i64 r3)), (3, .pv (.int .i64 r7)), (5, .pv (.int .i64 r11)), (6, .pv (.str r14)), (7, .pv (.int .i64 r15)), (8, .pv (.slice (List.map GEnv.pv r35))), (9, .pv (.int .i64 r19)), (10, .pv (.int .i64 r20)), (11, .pv (.slice (List.map PV.str r23))), (12, .pv (.bool r24)), (13, .pv (.int .i64 r28)), (15, .pv (.bool r32)), (16, .pv (.int .i64 r36))] [] ?_ ?_
  · exact dk1 (an pf_17 f38)
  refine AW.seq ?_
  replace h := obs h; obtain ⟨⟨r39, r40⟩, q41, h⟩ := h
  dsimp only at h
  have f42 := c_F22 r35 1 1 [120] r39 r40 q41
  try dsimp only at f42
  try simp only [List.map_cons, List.map_nil, P22_eq, GOp.pv_eq, Var.pv_eq, P72_eq, GEnv.pv_eq] at f42
  refine AW.reg hS [(2, .pv (.int .i64 r3)), (3, .pv (.int .i64 r7)), (5, .pv (.int .i64 r11)), (6, .pv (.str r14)), (7, .pv (.int .i64 r15)), (8, .pv (.slice (List.map GEnv.pv r35))), (9, .pv (.int .i64 r19)), (10, .pv (.int .i64 r20)), (11, .pv (.slice (List.map PV.str r23))), (12, .pv (.bool r24)), (13, .pv (.int .i64 r28)), (15, .pv (.bool r32)), (16, .pv (.int .i64 r36)), (17, .pv (.int .i64 r39)), (18, .pv (.int .i64 r40))] [] ?_ ?_
  · exact dk1 (an pf_22 f42)
  refine AW.seq ?_
  replace h := obs h; obtain ⟨⟨r43, r44⟩, q45, h⟩ := h
  dsimp only at h
  have f46 := c_F11 [] r43 r44 q45
  try dsimp only at f46
  refine AW.reg hS [(2, .pv (.int .i64 r3)), (3, .pv (.int .i64 r7)), (5, .pv (.int .i64 r11)), (6, .pv (.str r14)), (7, .pv (.int .i64 r15)), (8, .pv (.slice (List.map GEnv.pv r35))), (9, .pv (.int .i64 r19)), (10, .pv (.int .i64 r20)), (11, .pv (.slice (List.map PV.str r23))), (12, .pv (.bool r24)), (13, .pv (.int .i64 r28)), (15, .pv (.bool r32)), (16, .pv (.int .i64 r36)), (17, .pv (.int .i64 r39)), (18, .pv (.int .i64 r40)), (19, .pv (.slice (List.map PV.str r43))), (20, .pv (.int .i64 r44))] [] ?_ ?_
  · exact dk1 (an pf_11 f46)
  refine AW.seq ?_
  replace h := obs h; obtain ⟨r47, q48, h⟩ := h
  have f49 := fun hg => c_F13 r23 [[121], [50]] r47 (guardO_t q48 hg)
  try dsimp only at f49
  try simp only [List.map_cons, List.map_nil, P22_eq, GOp.pv_eq, Var.pv_eq, P72_eq, GEnv.pv_eq] at f49
  replace h := obs h; obtain ⟨w50, q51, h⟩ := h
  have f52 := lidx_g (guardO_t q51)
  replace h := obs h; obtain ⟨r53, q54, h⟩ := h
  have f55 := fun hg => c_F20 r35 r53 (guardO_t q54 hg)
  try dsimp only at f55
  refine AW.reg hS [(0, .pv (.bool (((((((((((((((((decide (r3 = 0) && decide (r7 = 0)) && decide (r11 = 6)) && decide (r14 = [0, 50])) && decide (r15 = 0)) && decide (r19 = 1)) && decide (r20 = 0)) && r24) && r47) && decide (r28 = 0)) && !r32) && decide (r36 = 0)) && decide (r39 = 3)) && decide (r40 = 0)) && decide ((r43.length : Int) = 1)) && decide (w50 = [])) && decide (r44 = 0)) && r53)))] [] ?_ ?_
  · clear h
    exact dg1 (an pf_13 (an f49 (an f52.1 (an f52.2.1 (an pf_20 f55)))))
  refine AW.ret ?_
  cases h
  exact fin

set_option maxHeartbeats 4000000 in
theorem g_F7 {O : Orc} (hS : Sound env O) (hpf : O.pf = pfn) (l1 : List Str) (most2 : Int) (r3 : Bool) (h : F7 l1 most2 = some r3) : Good env 7 [.pv (.slice (List.map PV.str l1)), .pv (.int .i64 most2)] [] [.pv (.bool r3)] [] := by
  refine Good.start (fn := Tryd.f7) (N := 29) fn_7 rfl rfl (by simp) [] _ rfl rfl ?_
  rw [F7] at h
  refine AW.seq ?_
  refine AW.reg hS [(0, .pv (.slice (List.map PV.str l1))), (1, .pv (.int .i64 most2))] [] ?_ ?_
  · exact dk
  refine AW.seq ?_
  refine AW.reg hS [(0, .pv (.slice (List.map PV.str l1))), (1, .pv (.int .i64 most2)), (5, .pv (.int .i64 0))] [] ?_ ?_
  · exact dk
  refine AW.seq ?_
  refine AW.seq ?_
  refine AW.reg hS [(0, .pv (.slice (List.map PV.str l1))), (1, .pv (.int .i64 most2)), (5, .pv (.int .i64 0)), (8, .pv (.int .i64 (l1.length : Int))), (9, .pv (.int .i64 0))] [] ?_ ?_
  · exact dk
  refine AW.block ?_
  refine AW.weak (Weak.slots (L := [(0, .pv (.slice (List.map PV.str l1))), (1, .pv (.int .i64 most2)), (5, .pv (.int .i64 0)), (8, .pv (.int .i64 (l1.length : Int))), (9, .pv (.int .i64 0))]) ⟨rfl, rfl, rfl, rfl, rfl, trivial⟩) ?_
  refine AW.loopI (α := Nat × Int × Int) (fun (_, n4, i5) => ⟨sl [(0, .pv (.slice (List.map PV.str l1))), (1, .pv (.int .i64 most2)), (5, .pv (.int .i64 n4)), (8, .pv (.int .i64 (l1.length : Int))), (9, .pv (.int .i64 i5))], 29, []⟩) (fun x => iter (F7_b1 l1 most2) x.1 x.2 = some r3) (fun x => x.1) (BIG, (0, 0)) h ?_
  clear h
  intro ⟨n13, n4, i5⟩ h
  replace h := iter_some h; obtain ⟨m8, rfl, h⟩ := h
  rw [F7_b1] at h
  try dsimp only at h
  show AW _ _ _ _ ⟨sl [(0, .pv (.slice (List.map PV.str l1))), (1, .pv (.int .i64 most2)), (5, .pv (.int .i64 n4)), (8, .pv (.int .i64 (l1.length : Int))), (9, .pv (.int .i64 i5))], 29, []⟩
  refine AW.seq ?_
  refine AW.reg hS [(0, .pv (.slice (List.map PV.str l1))), (1, .pv (.int .i64 most2)), (5, .pv (.int .i64 n4)), (8, .pv (.int .i64 (l1.length : Int))), (9, .pv (.int .i64 i5)), (10, .pv (.bool (decide (i5 < (l1.length : Int)))))] [] ?_ ?_
  · exact dk
  refine AW.seq ?_
  refine AW.cond (b := decide (i5 < (l1.length : Int))) rfl (fun hb9 => ?_) (fun hb9 => ?_)
  · replace h := bif_t hb9 h
    refine AW.skip ?_
    refine AW.seq ?_
    refine AW.block ?_
    refine AW.seq ?_
    refine AW.reg hS [(0, .pv (.slice (List.map PV.str l1))), (1, .pv (.int .i64 most2)), (5, .pv (.int .i64 n4)), (6, .pv (.int .i64 i5)), (8, .pv (.int .i64 (l1.length : Int))), (9, .pv (.int .i64 i5))] [] ?_ ?_
    · exact dk
    replace h := obs h; obtain ⟨w10, q11, h⟩ := h
    have f12 := lidx_f q11
    refine AW.reg hS [(0, .pv (.slice (List.map PV.str l1))), (1, .pv (.int .i64 most2)), (5, .pv (.int .i64 (IntKind.wrap .i64 (n4 + (imin (w10.length : Int) 1048576))))), (8, .pv (.int .i64 (l1.length : Int))), (9, .pv (.int .i64 i5))] [] ?_ ?_
    · exact dk1 (an f12.1 f12.2.1)
    refine AW.reg hS [(0, .pv (.slice (List.map PV.str l1))), (1, .pv (.int .i64 most2)), (5, .pv (.int .i64 (IntKind.wrap .i64 (n4 + (imin (w10.length : Int) 1048576))))), (8, .pv (.int .i64 (l1.length : Int))), (9, .pv (.int .i64 (IntKind.wrap .i64 (i5 + 1))))] [] ?_ ?_
    · exact dk
    exact ⟨(m8, (IntKind.wrap .i64 (n4 + (imin (w10.length : Int) 1048576)), IntKind.wrap .i64 (i5 + 1))), h, (Weak.norm (m := 0) (Nat.le_of_ble_eq_true rfl) ⟨rfl, rfl, rfl, rfl, rfl, trivial⟩ rfl rfl rfl), Nat.lt_succ_self _⟩
  · replace h := bif_f hb9 h
    refine AW.exit ?_
    refine AW.seq ?_
    refine AW.reg hS [(4, .pv (.bool (decide (n4 ≤ most2) && decide ((l1.length : Int) ≤ 400))))] [] ?_ ?_
    · clear h
      exact dg
    refine AW.ret ?_
    cases h
    exact fin

set_option maxHeartbeats 4000000 in
theorem g_F15 {O : Orc} (hS : Sound env O) (hpf : O.pf = pfn) (c_F7 : C_F7 O) (o1 : GOp) (r2 : Bool) (h : F15 o1 = some r2) : Good env 15 [.pv (.agg [.int .i64 o1.kind_, .int .i64 o1.group_, .int .i64 o1.to_, .int .i64 o1.id_, .str o1.name_, .slice (List.map PV.str o1.values_), .int .i64 o1.offset_, .str o1.data_])] [] [.pv (.bool r2)] [] := by
  have pf_7 : O.pf 7 = true := by rw [hpf]; rfl
  refine Good.start (fn := Tryd.f15) (N := 18) fn_15 rfl rfl (by simp) [] _ rfl rfl ?_
  rw [F15] at h
  refine AW.seq ?_
  refine AW.reg hS [(1, .ref 0 0)] [.var [.pv (.int .i64 o1.kind_), .pv (.int .i64 o1.group_), .pv (.int .i64 o1.to_), .pv (.int .i64 o1.id_), .pv (.str o1.name_), .pv (.slice (List.map PV.str o1.values_)), .pv (.int .i64 o1.offset_), .pv (.str o1.data_)]] ?_ ?_
  · exact dk
  refine AW.seq ?_
  replace h := obs h; obtain ⟨r3, q4, h⟩ := h
  have f5 := fun hg => c_F7 o1.values_ 70000 r3 (guardO_t q4 hg)
  try dsimp only at f5
  refine AW.reg hS [(2, .pv (.bool ((decide ((o1.name_.length : Int) ≤ 1000) && r3) && decide ((o1.data_.length : Int) ≤ 70000))))] [.var [.pv (.int .i64 o1.kind_), .pv (.int .i64 o1.group_), .pv (.int .i64 o1.to_), .pv (.int .i64 o1.id_), .pv (.str o1.name_), .pv (.slice (List.map PV.str o1.values_)), .pv (.int .i64 o1.offset_), .pv (.str o1.data_)]] ?_ ?_
  · clear h
    exact dg1 (an pf_7 f5)
  refine AW.ret ?_
  cases h
  exact fin

set_option maxHeartbeats 4000000 in
theorem g_F51 {O : Orc} (hS : Sound env O) (hpf : O.pf = pfn) (l1 : List GEnv) (group2 : Int) (r3 : Int) (h : F51 l1 group2 = some r3) : Good env 51 [.pv (.slice (List.map GEnv.pv l1)), .pv (.int .i64 group2)] [] [.pv (.int .i64 r3)] [] := by
  refine Good.start (fn := Tryd.f51) (N := 20) fn_51 rfl rfl (by simp) [] _ rfl rfl ?_
  rw [F51] at h
  refine AW.seq ?_
  refine AW.reg hS [(0, .pv (.slice (List.map GEnv.pv l1))), (1, .pv (.int .i64 group2))] [] ?_ ?_
  · exact dk
  refine AW.seq ?_
  refine AW.seq ?_
  refine AW.reg hS [(0, .pv (.slice (List.map GEnv.pv l1))), (1, .pv (.int .i64 group2)), (5, .pv (.int .i64 0))] [] ?_ ?_
  · exact dk
  refine AW.block ?_
  refine AW.weak (Weak.slots (L := [(0, .pv (.slice (List.map GEnv.pv l1))), (1, .pv (.int .i64 group2)), (5, .pv (.int .i64 0))]) ⟨rfl, rfl, rfl, trivial⟩) ?_
  refine AW.loopI (α := Nat × Int) (fun (_, i4) => ⟨sl [(0, .pv (.slice (List.map GEnv.pv l1))), (1, .pv (.int .i64 group2)), (5, .pv (.int .i64 i4))], 20, []⟩) (fun x => iter (F51_b1 l1 group2) x.1 x.2 = some r3) (fun x => x.1) (BIG, 0) h ?_
  clear h
  intro ⟨n13, i4⟩ h
  replace h := iter_some h; obtain ⟨m7, rfl, h⟩ := h
  rw [F51_b1] at h
  try dsimp only at h
  show AW _ _ _ _ ⟨sl [(0, .pv (.slice (List.map GEnv.pv l1))), (1, .pv (.int .i64 group2)), (5, .pv (.int .i64 i4))], 20, []⟩
  refine AW.seq ?_
  refine AW.seq ?_
  refine AW.reg hS [(0, .pv (.slice (List.map GEnv.pv l1))), (1, .pv (.int .i64 group2)), (5, .pv (.int .i64 i4)), (9, .pv (.bool (decide (i4 < (l1.length : Int)))))] [] ?_ ?_
  · exact dk
  refine AW.cond (b := decide (i4 < (l1.length : Int))) rfl (fun hb8 => ?_) (fun hb8 => ?_)
  · replace h := bif_t hb8 h
    refine AW.skip ?_
    refine AW.seq ?_
    refine AW.block ?_
    refine AW.seq ?_
    replace h := obs h; obtain ⟨u9, q10, h⟩ := h
    have f11 := lidx_f q10
    refine AW.reg hS [(0, .pv (.slice (List.map GEnv.pv l1))), (1, .pv (.int .i64 group2)), (5, .pv (.int .i64 i4)), (18, .pv (.bool (decide (u9.id_ = group2))))] [] ?_ ?_
    · exact dk1 (an f11.1 f11.2.1)
    refine AW.cond (b := decide (u9.id_ = group2)) rfl (fun hb12 => ?_) (fun hb12 => ?_)
    · replace h := bif_t hb12 h
      refine AW.seq ?_
      refine AW.reg hS [(4, .pv (.int .i64 i4))] [] ?_ ?_
      · exact dk
      refine AW.ret ?_
      cases h
      exact fin
    · replace h := bif_f hb12 h
      refine AW.skip ?_
      refine AW.reg hS [(0, .pv (.slice (List.map GEnv.pv l1))), (1, .pv (.int .i64 group2)), (5, .pv (.int .i64 (IntKind.wrap .i64 (i4 + 1))))] [] ?_ ?_
      · exact dk
      exact ⟨(m7, IntKind.wrap .i64 (i4 + 1)), h, (Weak.norm (m := 0) (Nat.le_of_ble_eq_true rfl) ⟨rfl, rfl, rfl, trivial⟩ rfl rfl rfl), Nat.lt_succ_self _⟩
  · replace h := bif_f hb8 h
    refine AW.exit ?_
    refine AW.seq ?_
    refine AW.reg hS [(4, .pv (.int .i64 (-1)))] [] ?_ ?_
    · exact dk
    refine AW.ret ?_
    cases h
    exact fin

set_option maxHeartbeats 4000000 in
theorem g_F40 {O : Orc} (hS : Sound env O) (hpf : O.pf = pfn) (name1 : Str) (r2 : Bool) (h : F40 name1 = some r2) : Good env 40 [.pv (.str name1)] [] [.pv (.bool r2)] [] := by
  refine Good.start (fn := Tryd.f40) (N := 42) fn_40 rfl rfl (by simp) [] _ rfl rfl ?_
  rw [F40] at h
  refine AW.seq ?_
  refine AW.reg hS [(0, .pv (.str name1))] [] ?_ ?_
  · exact dk
  refine AW.seq ?_
  refine AW.seq ?_
  refine AW.reg hS [(0, .pv (.str name1)), (3, .pv (.int .i64 0))] [] ?_ ?_
  · exact dk
  refine AW.block ?_
  refine AW.weak (Weak.slots (L := [(0, .pv (.str name1)), (3, .pv (.int .i64 0))]) ⟨rfl, rfl, trivial⟩) ?_
  refine AW.loopI (α := Nat × Int) (fun (_, i3) => ⟨sl [(0, .pv (.str name1)), (3, .pv (.int .i64 i3))], 42, []⟩) (fun x => iter (F40_b1 name1) x.1 x.2 = some r2) (fun x => x.1) (BIG, 0) h ?_
  clear h
  intro ⟨n12, i3⟩ h
  replace h := iter_some h; obtain ⟨m6, rfl, h⟩ := h
  rw [F40_b1] at h
  try dsimp only at h
  show AW _ _ _ _ ⟨sl [(0, .pv (.str name1)), (3, .pv (.int .i64 i3))], 42, []⟩
  refine AW.seq ?_
  refine AW.seq ?_
  refine AW.reg hS [(0, .pv (.str name1)), (3, .pv (.int .i64 i3)), (7, .pv (.bool (decide (i3 < (name1.length : Int)))))] [] ?_ ?_
  · exact dk
  refine AW.cond (b := decide (i3 < (name1.length : Int))) rfl (fun hb7 => ?_) (fun hb7 => ?_)
  · replace h := bif_t hb7 h
    refine AW.skip ?_
    refine AW.seq ?_
    refine AW.block ?_
    refine AW.seq ?_
    replace h := obs h; obtain ⟨c8, q9, h⟩ := h
    have f10 := sidx_f q9
    refine AW.reg hS [(0, .pv (.str name1)), (3, .pv (.int .i64 i3)), (25, .pv (.bool ((decide (c8 < 33) || decide (126 < c8)) || decide (c8 = 47))))] [] ?_ ?_
    · clear h
      exact dg1 (an f10.1 (an f10.2.1 f10.2.2))
    refine AW.cond (b := ((decide (c8 < 33) || decide (126 < c8)) || decide (c8 = 47))) rfl (fun hb11 => ?_) (fun hb11 => ?_)
    · replace h := bif_t hb11 h
      refine AW.seq ?_
      refine AW.reg hS [(2, .pv (.bool false))] [] ?_ ?_
      · exact dk
      refine AW.ret ?_
      cases h
      exact fin
    · replace h := bif_f hb11 h
      refine AW.skip ?_
      refine AW.reg hS [(0, .pv (.str name1)), (3, .pv (.int .i64 (IntKind.wrap .i64 (i3 + 1))))] [] ?_ ?_
      · exact dk
      exact ⟨(m6, IntKind.wrap .i64 (i3 + 1)), h, (Weak.norm (m := 0) (Nat.le_of_ble_eq_true rfl) ⟨rfl, rfl, trivial⟩ rfl rfl rfl), Nat.lt_succ_self _⟩
  · replace h := bif_f hb7 h
    refine AW.exit ?_
    refine AW.seq ?_
    refine AW.reg hS [(2, .pv (.bool (((decide (1 ≤ (name1.length : Int)) && decide ((name1.length : Int) ≤ 64)) && !decide (name1 = [46])) && !decide (name1 = [46, 46]))))] [] ?_ ?_
    · clear h
      exact dg
    refine AW.ret ?_
    cases h
    exact fin

set_option maxHeartbeats 4000000 in
theorem g_F41 {O : Orc} (hS : Sound env O) (hpf : O.pf = pfn) (g1 : GEnv) (name2 : Str) (r3 : Int) (h : F41 g1 name2 = some r3) : Good env 41 [.pv (.agg [.int .i64 g1.id_, .int .i64 g1.next_, .slice (List.map Var.pv g1.vars_)]), .pv (.str name2)] [] [.pv (.int .i64 r3)] [] := by
  refine Good.start (fn := Tryd.f41) (N := 22) fn_41 rfl rfl (by simp) [] _ rfl rfl ?_
  rw [F41] at h
  refine AW.seq ?_
  refine AW.reg hS [(1, .pv (.str name2)), (2, .ref 0 0)] [.var [.pv (.int .i64 g1.id_), .pv (.int .i64 g1.next_), .pv (.slice (List.map Var.pv g1.vars_))]] ?_ ?_
  · exact dk
  refine AW.seq ?_
  refine AW.seq ?_
  refine AW.reg hS [(1, .pv (.str name2)), (2, .ref 0 0), (5, .pv (.int .i64 0))] [.var [.pv (.int .i64 g1.id_), .pv (.int .i64 g1.next_), .pv (.slice (List.map Var.pv g1.vars_))]] ?_ ?_
  · exact dk
  refine AW.block ?_
  refine AW.weak (Weak.slots (L := [(1, .pv (.str name2)), (2, .ref 0 0), (5, .pv (.int .i64 0))]) ⟨rfl, rfl, rfl, trivial⟩) ?_
  refine AW.loopI (α := Nat × Int) (fun (_, i4) => ⟨sl [(1, .pv (.str name2)), (2, .ref 0 0), (5, .pv (.int .i64 i4))], 22, [.var [.pv (.int .i64 g1.id_), .pv (.int .i64 g1.next_), .pv (.slice (List.map Var.pv g1.vars_))]]⟩) (fun x => iter (F41_b1 g1 name2) x.1 x.2 = some r3) (fun x => x.1) (BIG, 0) h ?_
  clear h
  intro ⟨n13, i4⟩ h
  replace h := iter_some h; obtain ⟨m7, rfl, h⟩ := h
  rw [F41_b1] at h
  try dsimp only at h
  show AW _ _ _ _ ⟨sl [(1, .pv (.str name2)), (2, .ref 0 0), (5, .pv (.int .i64 i4))], 22, [.var [.pv (.int .i64 g1.id_), .pv (.int .i64 g1.next_), .pv (.slice (List.map Var.pv g1.vars_))]]⟩
  refine AW.seq ?_
  refine AW.seq ?_
  refine AW.reg hS [(1, .pv (.str name2)), (2, .ref 0 0), (5, .pv (.int .i64 i4)), (10, .pv (.bool (decide (i4 < (g1.vars_.length : Int)))))] [.var [.pv (.int .i64 g1.id_), .pv (.int .i64 g1.next_), .pv (.slice (List.map Var.pv g1.vars_))]] ?_ ?_
  · exact dk
  refine AW.cond (b := decide (i4 < (g1.vars_.length : Int))) rfl (fun hb8 => ?_) (fun hb8 => ?_)
  · replace h := bif_t hb8 h
    refine AW.skip ?_
    refine AW.seq ?_
    refine AW.block ?_
    refine AW.seq ?_
    replace h := obs h; obtain ⟨u9, q10, h⟩ := h
    have f11 := lidx_f q10
    refine AW.reg hS [(1, .pv (.str name2)), (2, .ref 0 0), (5, .pv (.int .i64 i4)), (20, .pv (.bool (decide (u9.name_ = name2))))] [.var [.pv (.int .i64 g1.id_), .pv (.int .i64 g1.next_), .pv (.slice (List.map Var.pv g1.vars_))]] ?_ ?_
    · exact dk1 (an f11.1 f11.2.1)
    refine AW.cond (b := decide (u9.name_ = name2)) rfl (fun hb12 => ?_) (fun hb12 => ?_)
    · replace h := bif_t hb12 h
      refine AW.seq ?_
      refine AW.reg hS [(4, .pv (.int .i64 i4))] [.var [.pv (.int .i64 g1.id_), .pv (.int .i64 g1.next_), .pv (.slice (List.map Var.pv g1.vars_))]] ?_ ?_
      · exact dk
      refine AW.ret ?_
      cases h
      exact fin
    · replace h := bif_f hb12 h
      refine AW.skip ?_
      refine AW.reg hS [(1, .pv (.str name2)), (2, .ref 0 0), (5, .pv (.int .i64 (IntKind.wrap .i64 (i4 + 1))))] [.var [.pv (.int .i64 g1.id_), .pv (.int .i64 g1.next_), .pv (.slice (List.map Var.pv g1.vars_))]] ?_ ?_
      · exact dk
      exact ⟨(m7, IntKind.wrap .i64 (i4 + 1)), h, (Weak.norm (m := 1) (Nat.le_of_ble_eq_true rfl) ⟨rfl, rfl, rfl, trivial⟩ rfl rfl rfl), Nat.lt_succ_self _⟩
  · replace h := bif_f hb8 h
    refine AW.exit ?_
    refine AW.seq ?_
    refine AW.reg hS [(4, .pv (.int .i64 (-1)))] [.var [.pv (.int .i64 g1.id_), .pv (.int .i64 g1.next_), .pv (.slice (List.map Var.pv g1.vars_))]] ?_ ?_
    · exact dk
    refine AW.ret ?_
    cases h
    exact fin

set_option maxHeartbeats 4000000 in
theorem g_F87 {O : Orc} (hS : Sound env O) (hpf : O.pf = pfn) (g1 : GEnv) (k2 : Int) (r3 : GEnv) (h : F87 g1 k2 = some r3) : Good env 87 [.pv (.agg [.int .i64 g1.id_, .int .i64 g1.next_, .slice (List.map Var.pv g1.vars_)]), .pv (.int .i64 k2)] [] [.pv (.agg [.int .i64 r3.id_, .int .i64 r3.next_, .slice (List.map Var.pv r3.vars_)])] [] := by
  refine Good.start (fn := Tryd.f87) (N := 33) fn_87 rfl rfl (by simp) [] _ rfl rfl ?_
  rw [F87] at h
  refine AW.seq ?_
  refine AW.reg hS [(1, .pv (.int .i64 k2)), (2, .ref 0 0), (4, .ref 1 0)] [.var [.pv (.int .i64 g1.id_), .pv (.int .i64 g1.next_), .pv (.slice (List.map Var.pv g1.vars_))], .var [.pv (.int .i64 0), .pv (.int .i64 0), .nils]] ?_ ?_
  · exact dk
  refine AW.seq ?_
  refine AW.after ?_
  refine AW.reg hS [(1, .pv (.int .i64 k2)), (2, .ref 0 0), (4, .ref 1 0), (5, .ref 2 0)] [.var [.pv (.int .i64 g1.id_), .pv (.int .i64 g1.next_), .pv (.slice (List.map Var.pv g1.vars_))], .var [.pv (.int .i64 0), .pv (.int .i64 0), .nils], .var [.pv (.int .i64 g1.id_), .pv (.int .i64 g1.next_), .nils]] ?_ ?_
  · exact dk
  refine ⟨⟨sl [(1, .pv (.int .i64 k2)), (2, .ref 0 0), (4, .ref 1 0), (5, .ref 2 0)], 33, [.var [.pv (.int .i64 g1.id_), .pv (.int .i64 g1.next_), .pv (.slice (List.map Var.pv g1.vars_))], .var [.pv (.int .i64 0), .pv (.int .i64 0), .nils], .var [.pv (.int .i64 g1.id_), .pv (.int .i64 g1.next_), .vec 3 (List.length ([] : List Var))], .row 76 3 (List.map Var.pv ([] : List Var)) true]⟩, (Weak.trans (Weak.ownC (σ := ⟨sl [(1, .pv (.int .i64 k2)), (2, .ref 0 0), (4, .ref 1 0), (5, .ref 2 0)], 33, [.var [.pv (.int .i64 g1.id_), .pv (.int .i64 g1.next_), .pv (.slice (List.map Var.pv g1.vars_))], .var [.pv (.int .i64 0), .pv (.int .i64 0), .nils], .var [.pv (.int .i64 g1.id_), .pv (.int .i64 g1.next_), .nils]]⟩) 2 2 76 3 (by decide) (cs := [.pv (.int .i64 g1.id_), .pv (.int .i64 g1.next_), .nils]) rfl rfl) (Weak.slots (L := [(1, .pv (.int .i64 k2)), (2, .ref 0 0), (4, .ref 1 0), (5, .ref 2 0)]) ⟨rfl, rfl, rfl, rfl, trivial⟩)), ?_⟩
  refine AW.seq ?_
  refine AW.seq ?_
  refine AW.reg hS [(1, .pv (.int .i64 k2)), (2, .ref 0 0), (4, .ref 1 0), (5, .ref 2 0), (6, .pv (.int .i64 0))] [.var [.pv (.int .i64 g1.id_), .pv (.int .i64 g1.next_), .pv (.slice (List.map Var.pv g1.vars_))], .var [.pv (.int .i64 0), .pv (.int .i64 0), .nils], .var [.pv (.int .i64 g1.id_), .pv (.int .i64 g1.next_), .vec 3 (List.length ([] : List Var))], .row 76 3 (List.map Var.pv ([] : List Var)) true] ?_ ?_
  · exact dk
  refine AW.block ?_
  refine AW.weak (Weak.slots (L := [(1, .pv (.int .i64 k2)), (2, .ref 0 0), (4, .ref 1 0), (5, .ref 2 0), (6, .pv (.int .i64 0))]) ⟨rfl, rfl, rfl, rfl, rfl, trivial⟩) ?_
  refine AW.loopI (α := Nat × Int × (List Var)) (fun (_, i4, l5) => ⟨sl [(1, .pv (.int .i64 k2)), (2, .ref 0 0), (4, .ref 1 0), (5, .ref 2 0), (6, .pv (.int .i64 i4))], 33, [.var [.pv (.int .i64 g1.id_), .pv (.int .i64 g1.next_), .pv (.slice (List.map Var.pv g1.vars_))], .var [.pv (.int .i64 0), .pv (.int .i64 0), .nils], .var [.pv (.int .i64 g1.id_), .pv (.int .i64 g1.next_), .vec 3 (List.length l5)], .row 76 3 (List.map Var.pv l5) true]⟩) (fun x => iter (F87_b1 g1 k2) x.1 x.2 = some r3) (fun x => x.1) (BIG, (0, ([] : List Var))) h ?_
  clear h
  intro ⟨n17, i4, l5⟩ h
  replace h := iter_some h; obtain ⟨m8, rfl, h⟩ := h
  rw [F87_b1] at h
  try dsimp only at h
  show AW _ _ _ _ ⟨sl [(1, .pv (.int .i64 k2)), (2, .ref 0 0), (4, .ref 1 0), (5, .ref 2 0), (6, .pv (.int .i64 i4))], 33, [.var [.pv (.int .i64 g1.id_), .pv (.int .i64 g1.next_), .pv (.slice (List.map Var.pv g1.vars_))], .var [.pv (.int .i64 0), .pv (.int .i64 0), .nils], .var [.pv (.int .i64 g1.id_), .pv (.int .i64 g1.next_), .vec 3 (List.length l5)], .row 76 3 (List.map Var.pv l5) true]⟩
  refine AW.seq ?_
  refine AW.seq ?_
  refine AW.reg hS [(1, .pv (.int .i64 k2)), (2, .ref 0 0), (4, .ref 1 0), (5, .ref 2 0), (6, .pv (.int .i64 i4)), (16, .pv (.bool (decide (i4 < (g1.vars_.length : Int)))))] [.var [.pv (.int .i64 g1.id_), .pv (.int .i64 g1.next_), .pv (.slice (List.map Var.pv g1.vars_))], .var [.pv (.int .i64 0), .pv (.int .i64 0), .nils], .var [.pv (.int .i64 g1.id_), .pv (.int .i64 g1.next_), .vec 3 (List.length l5)], .row 76 3 (List.map Var.pv l5) true] ?_ ?_
  · exact dk
  refine AW.cond (b := decide (i4 < (g1.vars_.length : Int))) rfl (fun hb9 => ?_) (fun hb9 => ?_)
  · replace h := bif_t hb9 h
    refine AW.skip ?_
    refine AW.seq ?_
    refine AW.block ?_
    refine AW.seq ?_
    refine AW.reg hS [(1, .pv (.int .i64 k2)), (2, .ref 0 0), (4, .ref 1 0), (5, .ref 2 0), (6, .pv (.int .i64 i4)), (21, .pv (.bool (!decide (i4 = k2))))] [.var [.pv (.int .i64 g1.id_), .pv (.int .i64 g1.next_), .pv (.slice (List.map Var.pv g1.vars_))], .var [.pv (.int .i64 0), .pv (.int .i64 0), .nils], .var [.pv (.int .i64 g1.id_), .pv (.int .i64 g1.next_), .vec 3 (List.length l5)], .row 76 3 (List.map Var.pv l5) true] ?_ ?_
    · exact dk
    refine AW.cond (b := !decide (i4 = k2)) rfl (fun hb10 => ?_) (fun hb10 => ?_)
    · replace h := bif_t hb10 h
      replace h := obs h; obtain ⟨u11, q12, h⟩ := h
      have f13 := lidx_f q12
      replace h := obs h; obtain ⟨out14, q15, h⟩ := h
      have f16 := appO_f q15
      try simp only [List.length_cons, List.length_nil, List.length_replicate, Nat.zero_add, Nat.reduceAdd, Nat.reduceLeDiff, Nat.add_zero, Nat.reduceMul] at f16
      refine AW.dregB mixed hS [(2, some 0), (5, some 2), (22, some 2), (24, some 0), (27, none), (31, some 2)] rfl (hpf ▸ (by kernel_rfl : orderOKB pfn [(2, some 0), (5, some 2), (22, some 2), (24, some 0), (27, none), (31, some 2)] _ = true)) [(1, .pv (.int .i64 k2)), (2, .ref 0 0), (4, .ref 1 0), (5, .ref 2 0), (6, .pv (.int .i64 i4))] [.var [.pv (.int .i64 g1.id_), .pv (.int .i64 g1.next_), .pv (.slice (List.map Var.pv g1.vars_))], .var [.pv (.int .i64 0), .pv (.int .i64 0), .nils], .var [.pv (.int .i64 g1.id_), .pv (.int .i64 g1.next_), .vec 3 (List.length out14)], .row 76 3 (List.map Var.pv out14) true] ?_ ?_
      · exact dk1 (an f13.1 (an f13.2.1 (an f16.1 f16.2)))
      clear f16
      refine AW.reg hS [(1, .pv (.int .i64 k2)), (2, .ref 0 0), (4, .ref 1 0), (5, .ref 2 0), (6, .pv (.int .i64 (IntKind.wrap .i64 (i4 + 1))))] [.var [.pv (.int .i64 g1.id_), .pv (.int .i64 g1.next_), .pv (.slice (List.map Var.pv g1.vars_))], .var [.pv (.int .i64 0), .pv (.int .i64 0), .nils], .var [.pv (.int .i64 g1.id_), .pv (.int .i64 g1.next_), .vec 3 (List.length out14)], .row 76 3 (List.map Var.pv out14) true] ?_ ?_
      · exact dk
      exact ⟨(m8, (IntKind.wrap .i64 (i4 + 1), out14)), h, (Weak.norm (m := 4) (Nat.le_of_ble_eq_true rfl) ⟨rfl, rfl, rfl, rfl, rfl, trivial⟩ rfl rfl rfl), Nat.lt_succ_self _⟩
    · replace h := bif_f hb10 h
      refine AW.skip ?_
      refine AW.reg hS [(1, .pv (.int .i64 k2)), (2, .ref 0 0), (4, .ref 1 0), (5, .ref 2 0), (6, .pv (.int .i64 (IntKind.wrap .i64 (i4 + 1))))] [.var [.pv (.int .i64 g1.id_), .pv (.int .i64 g1.next_), .pv (.slice (List.map Var.pv g1.vars_))], .var [.pv (.int .i64 0), .pv (.int .i64 0), .nils], .var [.pv (.int .i64 g1.id_), .pv (.int .i64 g1.next_), .vec 3 (List.length l5)], .row 76 3 (List.map Var.pv l5) true] ?_ ?_
      · exact dk
      exact ⟨(m8, (IntKind.wrap .i64 (i4 + 1), l5)), h, (Weak.norm (m := 4) (Nat.le_of_ble_eq_true rfl) ⟨rfl, rfl, rfl, rfl, rfl, trivial⟩ rfl rfl rfl), Nat.lt_succ_self _⟩
  · replace h := bif_f hb9 h
    refine AW.exit ?_
    refine AW.seq ?_
    refine AW.weak (Weak.cellPV 2 2 (cs := [.pv (.int .i64 g1.id_), .pv (.int .i64 g1.next_), .vec 3 (List.length l5)]) (a := .vec 3 (List.length l5)) (p := .slice (List.map Var.pv l5)) rfl rfl (by first | rfl | simp only [toPV, List.getElem?_cons_zero, List.getElem?_cons_succ, List.length_map, if_true, List.map_nil])) ?_
    refine AW.weak (σ' := ⟨sl [(1, .pv (.int .i64 k2)), (2, .ref 0 0), (4, .ref 1 0), (5, .ref 2 0), (6, .pv (.int .i64 i4)), (16, .pv (.bool (decide (i4 < (g1.vars_.length : Int)))))], 33, [.var [.pv (.int .i64 g1.id_), .pv (.int .i64 g1.next_), .pv (.slice (List.map Var.pv g1.vars_))], .var [.pv (.int .i64 0), .pv (.int .i64 0), .nils], .var [.pv (.int .i64 g1.id_), .pv (.int .i64 g1.next_), .pv (.slice (List.map Var.pv l5))], .row 76 3 (List.map Var.pv l5) true]⟩) (Weak.of_eq (Weak.slots (L := [(1, .pv (.int .i64 k2)), (2, .ref 0 0), (4, .ref 1 0), (5, .ref 2 0), (6, .pv (.int .i64 i4)), (16, .pv (.bool (decide (i4 < (g1.vars_.length : Int)))))]) ⟨rfl, rfl, rfl, rfl, rfl, rfl, trivial⟩) (by first | rfl | (simp only [List.length_set, List.length_map]; rfl))) ?_
    refine AW.reg hS [(4, .ref 1 0)] [.var [.pv (.int .i64 g1.id_), .pv (.int .i64 g1.next_), .pv (.slice (List.map Var.pv g1.vars_))], .var [.pv (.int .i64 g1.id_), .pv (.int .i64 g1.next_), .pv (.slice (List.map Var.pv l5))], .var [.pv (.int .i64 g1.id_), .pv (.int .i64 g1.next_), .pv (.slice (List.map Var.pv l5))], .row 76 3 (List.map Var.pv l5) true] ?_ ?_
    · exact dk
    refine AW.ret ?_
    cases h
    exact fin

end Go.Abs.U29
