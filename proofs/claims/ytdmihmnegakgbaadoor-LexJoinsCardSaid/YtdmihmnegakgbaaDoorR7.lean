/- LexJoins of The layer 47 laws holds, and its card: the row by the walks over the abstract machine and the plain law; no condition. -/
import Derived.Test.YtdmihmnegakgbaaDoorA25
import Derived.Test.YtdmihmnegakgbaaDoorZ1
import Derived.Test.YtdmihmnegakgbaaDoorTY
import Derived.Test.YtdmihmnegakgbaaDoorPE
import Derived.Test.YtdmihmnegakgbaaDoorRows
import Derived.Test.YtdmihmnegakgbaaDoorTie
import Derived.Test.YtdmihmnegakgbaaDoorCards
import Derived.Test.YtdmihmnegakgbaaDoorA40
import Derived.SevenTiedAt
import Derived.Shelf.Vars
set_option maxRecDepth 100000
namespace Go.Proofs.YtdmihmnegakgbaaDoor
open Go.RowKit Go.Abs Go.Abs.U47

theorem own : ownKnob Tryd.prog.godebug = none := by kernel_rfl
theorem laidOut : laidOutB Tryd.prog = true := by kernel_rfl

def laids : List (String × DataW Unit) := [("math/bits.deBruijn32tab", Rows.laid_math_bits_deBruijn32tab), ("math/bits.deBruijn64tab", Rows.laid_math_bits_deBruijn64tab), ("internal/strconv.uint64pow10", Rows.laid_internal_strconv_uint64pow10), ("unicode/utf8.acceptRanges", Rows.laid_unicode_utf8_acceptRanges), ("strconv.ErrRange", Rows.laid_strconv_ErrRange), ("strconv.ErrSyntax", Rows.laid_strconv_ErrSyntax), ("unicode/utf8.first", Rows.laid_unicode_utf8_first)]

theorem globals_there (W : World) (h : W.ShapedOpen Tryd.prog) (hX : ∃ _a : Array Value, laidMetH Tryd.prog laids W.memory) : U47.env.GI W ∧ U47.env.gN ≤ W.heap.size := by
  obtain ⟨_, hX⟩ := hX
  have h3 := laid_ifc (g := 3) (t := 68) (n := "strconv.ErrSyntax") hX (by kernel_rfl) (d := Rows.laid_strconv_ErrSyntax) (by simp [laids]) (by kernel_rfl) (by kernel_rfl) (ms := _) Tryd.underlying68
  have h4 := laid_ifc (g := 4) (t := 68) (n := "strconv.ErrRange") hX (by kernel_rfl) (d := Rows.laid_strconv_ErrRange) (by simp [laids]) (by kernel_rfl) (by kernel_rfl) (ms := _) Tryd.underlying68
  refine ⟨⟨cell_of_shapedOpen_int (g := 0) (t := 3) (zero := #[.int .i64 0]) h (of_decide_eq_true (by kernel_rfl)) (by kernel_rfl) rfl (by kernel_rfl) (by kernel_rfl) (by kernel_rfl), h3, h4⟩, ?_⟩
  obtain ⟨ev, hev, _⟩ := h4
  have : 4 < W.memory.heap.size := Lib.lt_of_cell hev
  exact this

theorem lexJoins_good (ps : List PV) (h : ps.length = 2) (ht : ∀ (i : Nat) t p, Tryd.f7.params[i]? = some t → ps[i]? = some p → Typed Tryd.prog 12 t p) : Go.Abs.Good U47.env 7 (ps.map AV.pv) [] [.pv (.bool true)] [] := by
  match ps, h with
  | [p0, p1], _ =>
    obtain ⟨x0, rfl, w0⟩ := ty_9 11 (ht 0 _ p0 rfl rfl)
    obtain ⟨x1, rfl, w1⟩ := ty_9 11 (ht 1 _ p1 rfl rfl)
    exact U47.good_F7 x0 x1 (U47.law7 x0 w0 x1 w1)

set_option maxRecDepth 100000 in
theorem lexJoins_lifted (os : Os) (started : os.Started) (H : Type) (enc : TypeId × Value → H) :
    ReturnsInHanded {} Tryd.checked os 7 .any (fun w args => (Rows.lexJoinsSpec.pre enc Tryd.prog Tryd.f7 Rows.lexJoinsRow.domain false w args ∧ laidMetH Tryd.prog laids w) ∧ sizedMet enc Tryd.prog Tryd.f7 (OpenSpec.ofChange Rows.lexJoinsSpec) false w args)
      (Rows.lexJoinsSpec.post enc Tryd.prog Tryd.f7 false true false false) :=
  lifted (E := U47.env) (C := Tryd.checked) (X := fun w _ => laidMetH Tryd.prog laids w) rfl 12 (tb := 4) own started (by kernel_rfl) Tryd.func7 laidOut rfl
    (fun ds hd => by
      match ds, hd with
      | [d0, d1], _ => rfl) rfl Tryd.underlying4 (by kernel_rfl) globals_there
    (fun ps hl ht => lexJoins_good ps hl ht)
    (ChangeSpec.witness_shaped (enc := enc) (C := Tryd.checked) (os := os) (X := fun w _ => laidMetH Tryd.prog laids w) false (World.laidAll Tryd.prog os laids) #[.string ⟨#[]⟩, .string ⟨#[]⟩] 8 (World.laidAll_os _ _ _)
      (World.shaped_of_ZipB (by kernel_rfl) (by kernel_rfl)) (by kernel_rfl) (by kernel_rfl) (by kernel_rfl)
      (by rw [MakeChecks.laidMetH_plain _ _ _ (by kernel_rfl)]; exact laidMet_laidAll _ (by kernel_rfl) (by kernel_rfl)))

theorem lexJoins_holds : Rows.LexJoinsSaid :=
  OpenClaim.holds_of_wide 7 Tryd.f7 rfl rfl rfl rfl rfl rfl rfl ⟨rfl, rfl, rfl, rfl, rfl⟩ rfl rfl rfl rfl rfl (by kernel_rfl) Tryd.func7 (by kernel_rfl)
    (of_decide_eq_true (by kernel_rfl)) (by unfold Func.isWrapper; first | (rw [if_pos (by decide +kernel)]; kernel_rfl) | (rw [if_neg (by decide +kernel)]; exact ⟨rfl, rfl⟩))
    (fun os started H enc _ => lexJoins_lifted os started H enc)

theorem lexJoins_card : Rows.LexJoinsCardSaid :=
  Claim7.holds_tied_plain_at .later [] [.data, .data, .data, .data, .sentinel, .sentinel, .pinned] true (true, "f49c0ac142b80b9d10f28442b14c3be778b2e7be045bfcc26279421eed02e606") true
    lexJoins_holds (fun _ h => by cases h) (by kernel_rfl) (fun _ h => by cases h) lexJoins_row_tie rfl ⟨rfl, rfl⟩ (by kernel_rfl) rfl
    (fun f fn hf hfn => by
      obtain rfl : f = 7 := Option.some.inj ((show Tryd.prog.funcNamed "filespace/filespacelaw47.LexJoins" = some 7 by kernel_rfl).symm.trans hf) |>.symm
      obtain rfl : fn = Tryd.f7 := (Option.some.inj (Tryd.func7.symm.trans hfn)).symm
      exact ⟨by kernel_rfl, fun j t ht => by
        rw [Tryd.params7] at ht
        have h3 := Array.mem_of_getElem? ht
        simp only [List.mem_toArray, List.mem_cons, List.not_mem_nil, or_false] at h3
        rcases h3 with rfl | rfl
        · exact (show Tryd.prog.wantsStandIn 9 = false by kernel_rfl)
        · exact (show Tryd.prog.wantsStandIn 9 = false by kernel_rfl)⟩)
    (by kernel_rfl)

end Go.Proofs.YtdmihmnegakgbaaDoor
