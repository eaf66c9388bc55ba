/- ExpandTexts of The layer 50 laws holds, and its card: the row by the walks over the abstract machine and the plain law; no condition. -/
import Derived.Test.YthoacjgjmlgaoaaGreatDoorA25
import Derived.Test.YthoacjgjmlgaoaaGreatDoorZ1
import Derived.Test.YthoacjgjmlgaoaaGreatDoorTY
import Derived.Test.YthoacjgjmlgaoaaGreatDoorPZ
import Derived.Test.YthoacjgjmlgaoaaGreatDoorRows
import Derived.Test.YthoacjgjmlgaoaaGreatDoorTie
import Derived.Test.YthoacjgjmlgaoaaGreatDoorCards
import Derived.Test.YthoacjgjmlgaoaaGreatDoorA40
import Derived.SevenTiedAt
import Derived.Shelf.Vars
set_option maxRecDepth 100000
namespace Go.Proofs.YthoacjgjmlgaoaaGreatDoor
open Go.RowKit Go.Abs Go.Abs.U5Z

theorem own : ownKnob Tryz.prog.godebug = none := by kernel_rfl
theorem laidOut : laidOutB Tryz.prog = true := by kernel_rfl

def laids : List (String × DataW Unit) := [("math/bits.deBruijn32tab", Rows.laid_math_bits_deBruijn32tab), ("math/bits.deBruijn64tab", Rows.laid_math_bits_deBruijn64tab), ("internal/strconv.uint64pow10", Rows.laid_internal_strconv_uint64pow10), ("strconv.ErrRange", Rows.laid_strconv_ErrRange), ("strconv.ErrSyntax", Rows.laid_strconv_ErrSyntax)]

theorem globals_there (W : World) (h : W.ShapedOpen Tryz.prog) (hX : ∃ _a : Array Value, laidMetH Tryz.prog laids W.memory) : U5Z.env.GI W ∧ U5Z.env.gN ≤ W.heap.size := by
  obtain ⟨_, hX⟩ := hX
  have h3 := laid_ifc (g := 1) (t := 58) (n := "strconv.ErrSyntax") hX (by kernel_rfl) (d := Rows.laid_strconv_ErrSyntax) (by simp [laids]) (by kernel_rfl) (by kernel_rfl) (ms := _) Tryz.underlying58
  have h4 := laid_ifc (g := 2) (t := 58) (n := "strconv.ErrRange") hX (by kernel_rfl) (d := Rows.laid_strconv_ErrRange) (by simp [laids]) (by kernel_rfl) (by kernel_rfl) (ms := _) Tryz.underlying58
  have h5 : Lib.TabIs Tryz.prog W.memory "internal/strconv.uint64pow10" .u64 Lib.pow10Tab := laid_tab (g := 3) (t := 129) (e := 114) (m := 20) hX (by kernel_rfl) (List.mem_cons_of_mem _ (List.mem_cons_of_mem _ (List.mem_cons.2 (.inl (by kernel_rfl))))) (by kernel_rfl) (by kernel_rfl) Tryz.underlying129 Tryz.underlying114 (by kernel_rfl) (by kernel_rfl)
  refine ⟨⟨cell_of_shapedOpen_int (g := 0) (t := 3) (zero := #[.int .i64 0]) h (of_decide_eq_true (by kernel_rfl)) (by kernel_rfl) rfl (by kernel_rfl) (by kernel_rfl) (by kernel_rfl), h3, h4, h5⟩, ?_⟩
  have : 3 < W.memory.heap.size := Lib.lt_of_cell (h5.cell (by kernel_rfl) 0 (by decide))
  exact this


theorem expandTexts_good (ps : List PV) (h : ps.length = 3) (ht : ∀ (i : Nat) t p, Tryz.f3.params[i]? = some t → ps[i]? = some p → Typed Tryz.prog 12 t p) : Go.Abs.Good U5Z.env 3 (ps.map AV.pv) [] [.pv (.bool true)] [] := by
  match ps, h with
  | [p0, p1, p2], _ =>
    obtain ⟨x0, rfl, w0⟩ := ty_22 6 (ht 0 _ p0 rfl rfl)
    obtain ⟨x1, rfl, w1⟩ := ty_9 11 (ht 1 _ p1 rfl rfl)
    obtain ⟨x2, rfl, w2⟩ := ty_9 11 (ht 2 _ p2 rfl rfl)
    exact U5Z.good_F3 x0 x1 x2 (U5Z.law3 x0 w0 x1 w1 x2 w2)

set_option maxRecDepth 100000 in
theorem expandTexts_lifted (os : Os) (started : os.Started) (H : Type) (enc : TypeId × Value → H) :
    ReturnsInHanded {} Tryz.checked os 3 .any (fun w args => (Rows.expandTextsSpec.pre enc Tryz.prog Tryz.f3 Rows.expandTextsRow.domain false w args ∧ laidMetH Tryz.prog laids w) ∧ sizedMet enc Tryz.prog Tryz.f3 (OpenSpec.ofChange Rows.expandTextsSpec) false w args)
      (Rows.expandTextsSpec.post enc Tryz.prog Tryz.f3 false true false false) :=
  lifted (E := U5Z.env) (C := Tryz.checked) (X := fun w _ => laidMetH Tryz.prog laids w) rfl 12 (tb := 4) own started (by kernel_rfl) Tryz.func3 laidOut rfl
    (fun ds hd => by
      match ds, hd with
      | [d0, d1, d2], _ => rfl) rfl Tryz.underlying4 (by kernel_rfl) globals_there
    (fun ps hl ht => expandTexts_good ps hl ht)
    (ChangeSpec.witness_shaped (enc := enc) (C := Tryz.checked) (os := os) (X := fun w _ => laidMetH Tryz.prog laids w) false (World.laidAll Tryz.prog os laids) #[.slice none 0 0, .string ⟨#[]⟩, .string ⟨#[]⟩] 8 (World.laidAll_os _ _ _)
      (World.shaped_of_ZipB (by kernel_rfl) (by kernel_rfl)) (by kernel_rfl) (by kernel_rfl) (by kernel_rfl)
      (by rw [MakeChecks.laidMetH_plain _ _ _ (by kernel_rfl)]; exact laidMet_laidAll _ (by kernel_rfl) (by kernel_rfl)))

theorem expandTexts_holds : Rows.ExpandTextsSaid :=
  OpenClaim.holds_of_wide 3 Tryz.f3 rfl rfl rfl rfl rfl rfl rfl ⟨rfl, rfl, rfl, rfl, rfl⟩ rfl rfl rfl rfl rfl (by kernel_rfl) Tryz.func3 (by kernel_rfl)
    (of_decide_eq_true (by kernel_rfl)) (by unfold Func.isWrapper; first | (rw [if_pos (by decide +kernel)]; kernel_rfl) | (rw [if_neg (by decide +kernel)]; exact ⟨rfl, rfl⟩))
    (fun os started H enc _ => expandTexts_lifted os started H enc)

theorem expandTexts_card : Rows.ExpandTextsCardSaid :=
  Claim7.holds_tied_plain_at .later [] [.data, .data, .data, .sentinel, .sentinel] true (true, "3fb8f419a865d588560e727545de669a03ecc91ff01f7d80b8d0137e490e618a") true
    expandTexts_holds (fun _ h => by cases h) (by kernel_rfl) (fun _ h => by cases h) expandTexts_row_tie rfl ⟨rfl, rfl⟩ (by kernel_rfl) rfl
    (fun f fn hf hfn => by
      obtain rfl : f = 3 := Option.some.inj ((show Tryz.prog.funcNamed "filespace/filespacelaw50.ExpandTexts" = some 3 by kernel_rfl).symm.trans hf) |>.symm
      obtain rfl : fn = Tryz.f3 := (Option.some.inj (Tryz.func3.symm.trans hfn)).symm
      exact ⟨by kernel_rfl, fun j t ht => by
        rw [Tryz.params3] at ht
        have h3 := Array.mem_of_getElem? ht
        simp only [List.mem_toArray, List.mem_cons, List.not_mem_nil, or_false] at h3
        rcases h3 with rfl | rfl | rfl
        · exact (show Tryz.prog.wantsStandIn 22 = false by kernel_rfl)
        · exact (show Tryz.prog.wantsStandIn 9 = false by kernel_rfl)
        · exact (show Tryz.prog.wantsStandIn 9 = false by kernel_rfl)⟩)
    (by kernel_rfl)

end Go.Proofs.YthoacjgjmlgaoaaGreatDoor
