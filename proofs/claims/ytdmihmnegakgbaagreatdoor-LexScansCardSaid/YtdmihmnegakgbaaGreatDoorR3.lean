/- LexScans of The layer 47 laws holds, and its card: the row by the walks over the abstract machine and the plain law; no condition. -/
import Derived.Test.YtdmihmnegakgbaaGreatDoorA25
import Derived.Test.YtdmihmnegakgbaaGreatDoorZ1
import Derived.Test.YtdmihmnegakgbaaGreatDoorTY
import Derived.Test.YtdmihmnegakgbaaGreatDoorPZ
import Derived.Test.YtdmihmnegakgbaaGreatDoorRows
import Derived.Test.YtdmihmnegakgbaaGreatDoorTie
import Derived.Test.YtdmihmnegakgbaaGreatDoorCards
import Derived.Test.YtdmihmnegakgbaaGreatDoorA40
import Derived.SevenTiedAt
import Derived.Shelf.Vars
set_option maxRecDepth 100000
namespace Go.Proofs.YtdmihmnegakgbaaGreatDoor
open Go.RowKit Go.Abs Go.Abs.U47

theorem own : ownKnob Tryz.prog.godebug = none := by kernel_rfl
theorem laidOut : laidOutB Tryz.prog = true := by kernel_rfl

def laids : List (String × DataW Unit) := [("math/bits.deBruijn32tab", Rows.laid_math_bits_deBruijn32tab), ("math/bits.deBruijn64tab", Rows.laid_math_bits_deBruijn64tab), ("internal/strconv.uint64pow10", Rows.laid_internal_strconv_uint64pow10), ("unicode/utf8.acceptRanges", Rows.laid_unicode_utf8_acceptRanges), ("strconv.ErrRange", Rows.laid_strconv_ErrRange), ("strconv.ErrSyntax", Rows.laid_strconv_ErrSyntax), ("unicode/utf8.first", Rows.laid_unicode_utf8_first)]

theorem globals_there (W : World) (h : W.ShapedOpen Tryz.prog) (hX : ∃ _a : Array Value, laidMetH Tryz.prog laids W.memory) : U47.env.GI W ∧ U47.env.gN ≤ W.heap.size := by
  obtain ⟨_, hX⟩ := hX
  have h3 := laid_ifc (g := 3) (t := 71) (n := "strconv.ErrSyntax") hX (by kernel_rfl) (d := Rows.laid_strconv_ErrSyntax) (by simp [laids]) (by kernel_rfl) (by kernel_rfl) (ms := _) Tryz.underlying71
  have h4 := laid_ifc (g := 4) (t := 71) (n := "strconv.ErrRange") hX (by kernel_rfl) (d := Rows.laid_strconv_ErrRange) (by simp [laids]) (by kernel_rfl) (by kernel_rfl) (ms := _) Tryz.underlying71
  refine ⟨⟨cell_of_shapedOpen_int (g := 0) (t := 3) (zero := #[.int .i64 0]) h (of_decide_eq_true (by kernel_rfl)) (by kernel_rfl) rfl (by kernel_rfl) (by kernel_rfl) (by kernel_rfl), h3, h4⟩, ?_⟩
  obtain ⟨ev, hev, _⟩ := h4
  have : 4 < W.memory.heap.size := Lib.lt_of_cell hev
  exact this

theorem lexScans_good (ps : List PV) (h : ps.length = 1) (ht : ∀ (i : Nat) t p, Tryz.f3.params[i]? = some t → ps[i]? = some p → Typed Tryz.prog 12 t p) : Go.Abs.Good U47.env 3 (ps.map AV.pv) [] [.pv (.bool true)] [] := by
  match ps, h with
  | [p0], _ =>
    obtain ⟨x0, rfl, w0⟩ := ty_9 11 (ht 0 _ p0 rfl rfl)
    exact U47.good_F3 x0 (U47.law3 x0 w0)

set_option maxRecDepth 100000 in
theorem lexScans_lifted (os : Os) (started : os.Started) (H : Type) (enc : TypeId × Value → H) :
    ReturnsInHanded {} Tryz.checked os 3 .any (fun w args => (Rows.lexScansSpec.pre enc Tryz.prog Tryz.f3 Rows.lexScansRow.domain false w args ∧ laidMetH Tryz.prog laids w) ∧ sizedMet enc Tryz.prog Tryz.f3 (OpenSpec.ofChange Rows.lexScansSpec) false w args)
      (Rows.lexScansSpec.post enc Tryz.prog Tryz.f3 false true false false) :=
  lifted (E := U47.env) (C := Tryz.checked) (X := fun w _ => laidMetH Tryz.prog laids w) rfl 12 (tb := 4) own started (by kernel_rfl) Tryz.func3 laidOut rfl
    (fun ds hd => by
      match ds, hd with
      | [d0], _ => rfl) rfl Tryz.underlying4 (by kernel_rfl) globals_there
    (fun ps hl ht => lexScans_good ps hl ht)
    (ChangeSpec.witness_shaped (enc := enc) (C := Tryz.checked) (os := os) (X := fun w _ => laidMetH Tryz.prog laids w) false (World.laidAll Tryz.prog os laids) #[.string ⟨#[]⟩] 8 (World.laidAll_os _ _ _)
      (World.shaped_of_ZipB (by kernel_rfl) (by kernel_rfl)) (by kernel_rfl) (by kernel_rfl) (by kernel_rfl)
      (by rw [MakeChecks.laidMetH_plain _ _ _ (by kernel_rfl)]; exact laidMet_laidAll _ (by kernel_rfl) (by kernel_rfl)))

theorem lexScans_holds : Rows.LexScansSaid :=
  OpenClaim.holds_of_wide 3 Tryz.f3 rfl rfl rfl rfl rfl rfl rfl ⟨rfl, rfl, rfl, rfl, rfl⟩ rfl rfl rfl rfl rfl (by kernel_rfl) Tryz.func3 (by kernel_rfl)
    (of_decide_eq_true (by kernel_rfl)) (by unfold Func.isWrapper; first | (rw [if_pos (by decide +kernel)]; kernel_rfl) | (rw [if_neg (by decide +kernel)]; exact ⟨rfl, rfl⟩))
    (fun os started H enc _ => lexScans_lifted os started H enc)

theorem lexScans_card : Rows.LexScansCardSaid :=
  Claim7.holds_tied_plain_at .later [] [.data, .data, .data, .data, .sentinel, .sentinel, .pinned] true (true, "e888f3b049143569f67f440bca62bc86d8d182bdc30b36b859f710e6874ad5e3") true
    lexScans_holds (fun _ h => by cases h) (by kernel_rfl) (fun _ h => by cases h) lexScans_row_tie rfl ⟨rfl, rfl⟩ (by kernel_rfl) rfl
    (fun f fn hf hfn => by
      obtain rfl : f = 3 := Option.some.inj ((show Tryz.prog.funcNamed "filespace/filespacelaw47.LexScans" = some 3 by kernel_rfl).symm.trans hf) |>.symm
      obtain rfl : fn = Tryz.f3 := (Option.some.inj (Tryz.func3.symm.trans hfn)).symm
      exact ⟨by kernel_rfl, fun j t ht => by
        rw [Tryz.params3] at ht
        have h3 := Array.mem_of_getElem? ht
        simp only [List.mem_toArray, List.mem_cons, List.not_mem_nil, or_false] at h3
        rcases h3 with rfl
        · exact (show Tryz.prog.wantsStandIn 9 = false by kernel_rfl)⟩)
    (by kernel_rfl)

end Go.Proofs.YtdmihmnegakgbaaGreatDoor
