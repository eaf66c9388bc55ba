/- ExpandMarks of The layer 50 laws holds, and its card: the row by the walks over the abstract machine and the plain law; no condition. -/
import Derived.Test.YthoacjgjmlgaoaaDoorA25
import Derived.Test.YthoacjgjmlgaoaaDoorZ1
import Derived.Test.YthoacjgjmlgaoaaDoorTY
import Derived.Test.YthoacjgjmlgaoaaDoorPM
import Derived.Test.YthoacjgjmlgaoaaDoorRows
import Derived.Test.YthoacjgjmlgaoaaDoorTie
import Derived.Test.YthoacjgjmlgaoaaDoorCards
import Derived.Test.YthoacjgjmlgaoaaDoorA40
import Derived.SevenTiedAt
import Derived.Shelf.Vars
set_option maxRecDepth 100000
namespace Go.Proofs.YthoacjgjmlgaoaaDoor
open Go.RowKit Go.Abs Go.Abs.U50

theorem own : ownKnob Tryd.prog.godebug = none := by kernel_rfl
theorem laidOut : laidOutB Tryd.prog = true := by kernel_rfl

def laids : List (String × DataW Unit) := [("math/bits.deBruijn32tab", Rows.laid_math_bits_deBruijn32tab), ("math/bits.deBruijn64tab", Rows.laid_math_bits_deBruijn64tab), ("internal/strconv.uint64pow10", Rows.laid_internal_strconv_uint64pow10), ("strconv.ErrRange", Rows.laid_strconv_ErrRange), ("strconv.ErrSyntax", Rows.laid_strconv_ErrSyntax)]

theorem globals_there (W : World) (h : W.ShapedOpen Tryd.prog) (hX : ∃ _a : Array Value, laidMetH Tryd.prog laids W.memory) : U50.env.GI W ∧ U50.env.gN ≤ W.heap.size := by
  obtain ⟨_, hX⟩ := hX
  have h3 := laid_ifc (g := 1) (t := 71) (n := "strconv.ErrSyntax") hX (by kernel_rfl) (d := Rows.laid_strconv_ErrSyntax) (by simp [laids]) (by kernel_rfl) (by kernel_rfl) (ms := _) Tryd.underlying71
  have h4 := laid_ifc (g := 2) (t := 71) (n := "strconv.ErrRange") hX (by kernel_rfl) (d := Rows.laid_strconv_ErrRange) (by simp [laids]) (by kernel_rfl) (by kernel_rfl) (ms := _) Tryd.underlying71
  have h5 : Lib.TabIs Tryd.prog W.memory "internal/strconv.uint64pow10" .u64 Lib.pow10Tab := laid_tab (g := 3) (t := 135) (e := 112) (m := 20) hX (by kernel_rfl) (List.mem_cons_of_mem _ (List.mem_cons_of_mem _ (List.mem_cons.2 (.inl (by kernel_rfl))))) (by kernel_rfl) (by kernel_rfl) Tryd.underlying135 Tryd.underlying112 (by kernel_rfl) (by kernel_rfl)
  refine ⟨⟨cell_of_shapedOpen_int (g := 0) (t := 3) (zero := #[.int .i64 0]) h (of_decide_eq_true (by kernel_rfl)) (by kernel_rfl) rfl (by kernel_rfl) (by kernel_rfl) (by kernel_rfl), h3, h4, h5⟩, ?_⟩
  have : 3 < W.memory.heap.size := Lib.lt_of_cell (h5.cell (by kernel_rfl) 0 (by decide))
  exact this


theorem expandMarks_good (ps : List PV) (h : ps.length = 3) (ht : ∀ (i : Nat) t p, Tryd.f4.params[i]? = some t → ps[i]? = some p → ∃ n, Typed Tryd.prog n t p) : Go.Abs.Good U50.env 4 (ps.map AV.pv) [] [.pv (.bool true)] [] := by
  match ps, h with
  | [p0, p1, p2], _ =>
    obtain ⟨n0, t0⟩ := ht 0 _ p0 rfl rfl
    obtain ⟨x0, rfl, w0⟩ := ty_30 n0 (t0.up 6)
    obtain ⟨n1, t1⟩ := ht 1 _ p1 rfl rfl
    obtain ⟨x1, rfl, w1⟩ := ty_3 n1 (t1.up 1)
    obtain ⟨n2, t2⟩ := ht 2 _ p2 rfl rfl
    obtain ⟨x2, rfl, w2⟩ := tyr_34 n2 t2
    exact U50.good_F4 x0 x1 x2 (U50.law4 x0 w0 x1 w1 x2 w2)

set_option maxRecDepth 100000 in
theorem expandMarks_lifted (os : Os) (started : os.Started) (H : Type) (enc : TypeId × Value → H) :
    ReturnsInHanded {} Tryd.checked os 4 .any (fun w args => (Rows.expandMarksSpec.pre enc Tryd.prog Tryd.f4 Rows.expandMarksRow.domain false w args ∧ laidMetH Tryd.prog laids w) ∧ sizedMet enc Tryd.prog Tryd.f4 (OpenSpec.ofChange Rows.expandMarksSpec) false w args)
      (Rows.expandMarksSpec.post enc Tryd.prog Tryd.f4 false true false false) :=
  liftedS (E := U50.env) (C := Tryd.checked) (X := fun w _ => laidMetH Tryd.prog laids w) rfl [3, 4, 9, 22, 30, 52, 54, 56, 31, 32, 34, 154, 156, 158] (tb := 4) own started (by kernel_rfl) Tryd.func4 laidOut rfl
    (fun ds hd => by
      match ds, hd with
      | [d0, d1, d2], _ => rfl) rfl Tryd.underlying4 (by kernel_rfl) (by kernel_rfl) globals_there
    (fun ps hl ht => expandMarks_good ps hl ht)
    (ChangeSpec.witness_shaped (enc := enc) (C := Tryd.checked) (os := os) (X := fun w _ => laidMetH Tryd.prog laids w) false (World.laidAll Tryd.prog os laids) #[.slice none 0 0, .int .i64 0, .agg #[.int .i64 0, .string ⟨#[]⟩, .string ⟨#[]⟩, .slice none 0 0, .slice none 0 0]] 8 (World.laidAll_os _ _ _)
      (World.shaped_of_ZipB (by kernel_rfl) (by kernel_rfl)) (by kernel_rfl) (by kernel_rfl) (by kernel_rfl)
      (by rw [MakeChecks.laidMetH_plain _ _ _ (by kernel_rfl)]; exact laidMet_laidAll _ (by kernel_rfl) (by kernel_rfl)))

theorem expandMarks_holds : Rows.ExpandMarksSaid :=
  OpenClaim.holds_of_wide 4 Tryd.f4 rfl rfl rfl rfl rfl rfl rfl ⟨rfl, rfl, rfl, rfl, rfl⟩ rfl rfl rfl rfl rfl (by kernel_rfl) Tryd.func4 (by kernel_rfl)
    (of_decide_eq_true (by kernel_rfl)) (by unfold Func.isWrapper; first | (rw [if_pos (by decide +kernel)]; kernel_rfl) | (rw [if_neg (by decide +kernel)]; exact ⟨rfl, rfl⟩))
    (fun os started H enc _ => expandMarks_lifted os started H enc)

theorem expandMarks_card : Rows.ExpandMarksCardSaid :=
  Claim7.holds_tied_plain_at .later [] [.data, .data, .data, .sentinel, .sentinel] true (true, "07241971ee1f0e631c755d3259136c808515a6849e2d3b3820e463720a93c031") true
    expandMarks_holds (fun _ h => by cases h) (by kernel_rfl) (fun _ h => by cases h) expandMarks_row_tie rfl ⟨rfl, rfl⟩ (by kernel_rfl) rfl
    (fun f fn hf hfn => by
      obtain rfl : f = 4 := Option.some.inj ((show Tryd.prog.funcNamed "filespace/filespacelaw50.ExpandMarks" = some 4 by kernel_rfl).symm.trans hf) |>.symm
      obtain rfl : fn = Tryd.f4 := (Option.some.inj (Tryd.func4.symm.trans hfn)).symm
      exact ⟨by kernel_rfl, fun j t ht => by
        rw [Tryd.params4] at ht
        have h3 := Array.mem_of_getElem? ht
        simp only [List.mem_toArray, List.mem_cons, List.not_mem_nil, or_false] at h3
        rcases h3 with rfl | rfl | rfl
        · exact (show Tryd.prog.wantsStandIn 30 = false by kernel_rfl)
        · exact (show Tryd.prog.wantsStandIn 3 = false by kernel_rfl)
        · exact (show Tryd.prog.wantsStandIn 34 = false by kernel_rfl)⟩)
    (by kernel_rfl)

end Go.Proofs.YthoacjgjmlgaoaaDoor
