/- NsfileReturns of The layer 45 laws holds, and its card: the row by the walks over the abstract machine and the plain law; no condition. -/
import Derived.Test.YtddhgkeiiobfeaaDoorA25
import Derived.Test.YtddhgkeiiobfeaaDoorZ1
import Derived.Test.YtddhgkeiiobfeaaDoorTY
import Derived.Test.YtddhgkeiiobfeaaDoorPM
import Derived.Test.YtddhgkeiiobfeaaDoorRows
import Derived.Test.YtddhgkeiiobfeaaDoorTie
import Derived.Test.YtddhgkeiiobfeaaDoorCards
import Derived.SevenTiedAt
import Derived.Shelf.Vars
set_option maxRecDepth 100000
namespace Go.Proofs.YtddhgkeiiobfeaaDoor
open Go.RowKit Go.Abs Go.Abs.U45

theorem own : ownKnob Tryd.prog.godebug = none := by kernel_rfl
theorem laidOut : laidOutB Tryd.prog = true := by kernel_rfl

def laids : List (String × DataW Unit) := [("unicode/utf8.acceptRanges", Rows.laid_unicode_utf8_acceptRanges), ("unicode/utf8.first", Rows.laid_unicode_utf8_first)]

theorem globals_there (W : World) (h : W.ShapedOpen Tryd.prog) : U45.env.GI W ∧ U45.env.gN ≤ W.heap.size := by
  refine ⟨cell_of_shapedOpen_int (g := 0) (t := 3) (zero := #[.int .i64 0]) h (of_decide_eq_true (by kernel_rfl)) (by kernel_rfl) rfl (by kernel_rfl) (by kernel_rfl) (by kernel_rfl), ?_⟩
  obtain ⟨cs, hcs, _⟩ := h.1 1 (Array.replicate 256 (.int .u8 0)) 99 (of_decide_eq_true (by kernel_rfl)) (by kernel_rfl)
  exact (Array.getElem?_eq_some_iff.1 hcs).1

theorem nsfileReturns_good (ps : List PV) (h : ps.length = 1) (ht : ∀ (i : Nat) t p, Tryd.f7.params[i]? = some t → ps[i]? = some p → Typed Tryd.prog 12 t p) : Go.Abs.Good U45.env 7 (ps.map AV.pv) [] [.pv (.bool true)] [] := by
  match ps, h with
  | [p0], _ =>
    obtain ⟨x0, rfl, w0⟩ := ty_43 9 (ht 0 _ p0 rfl rfl)
    exact U45.good_F7 x0 (U45.law7 x0 w0)

set_option maxRecDepth 100000 in
theorem nsfileReturns_lifted (os : Os) (started : os.Started) (H : Type) (enc : TypeId × Value → H) :
    ReturnsInHanded {} Tryd.checked os 7 .any (fun w args => (Rows.nsfileReturnsSpec.pre enc Tryd.prog Tryd.f7 Rows.nsfileReturnsRow.domain false w args ∧ laidMetH Tryd.prog laids w) ∧ sizedMet enc Tryd.prog Tryd.f7 (OpenSpec.ofChange Rows.nsfileReturnsSpec) false w args)
      (Rows.nsfileReturnsSpec.post enc Tryd.prog Tryd.f7 false true false false) :=
  lifted (E := U45.env) (C := Tryd.checked) (X := fun w _ => laidMetH Tryd.prog laids w) rfl 12 (tb := 4) own started (by kernel_rfl) Tryd.func7 laidOut rfl
    (fun ds hd => by
      match ds, hd with
      | [d0], _ => rfl) rfl Tryd.underlying4 (by kernel_rfl) globals_there
    (fun ps hl ht => nsfileReturns_good ps hl ht)
    (ChangeSpec.witness_shaped (enc := enc) (C := Tryd.checked) (os := os) (X := fun w _ => laidMetH Tryd.prog laids w) false (World.laidAll Tryd.prog os laids) #[.slice none 0 0] 8 (World.laidAll_os _ _ _)
      (World.shaped_of_ZipB (by kernel_rfl) (by kernel_rfl)) (by kernel_rfl) (by kernel_rfl) (by kernel_rfl)
      (by rw [MakeChecks.laidMetH_plain _ _ _ (by kernel_rfl)]; exact laidMet_laidAll _ (by kernel_rfl) (by kernel_rfl)))

theorem nsfileReturns_holds : Rows.NsfileReturnsSaid :=
  OpenClaim.holds_of_wide 7 Tryd.f7 rfl rfl rfl rfl rfl rfl rfl ⟨rfl, rfl, rfl, rfl, rfl⟩ rfl rfl rfl rfl rfl (by kernel_rfl) Tryd.func7 (by kernel_rfl)
    (of_decide_eq_true (by kernel_rfl)) (by unfold Func.isWrapper; first | (rw [if_pos (by decide +kernel)]; kernel_rfl) | (rw [if_neg (by decide +kernel)]; exact ⟨rfl, rfl⟩))
    (fun os started H enc _ => nsfileReturns_lifted os started H enc)

theorem nsfileReturns_card : Rows.NsfileReturnsCardSaid :=
  Claim7.holds_tied_plain_at .later [] [.data, .pinned] true (true, "abda654af02b7f3cfaa4214f375d62656ac87f97ccc80a188f39ddef49e17794") false
    nsfileReturns_holds (fun _ h => by cases h) (by kernel_rfl) (fun _ h => by cases h) nsfileReturns_row_tie rfl ⟨rfl, rfl⟩ (by kernel_rfl) rfl
    (fun f fn hf hfn => by
      obtain rfl : f = 7 := Option.some.inj ((show Tryd.prog.funcNamed "filespace/filespacelaw45.NsfileReturns" = some 7 by kernel_rfl).symm.trans hf) |>.symm
      obtain rfl : fn = Tryd.f7 := (Option.some.inj (Tryd.func7.symm.trans hfn)).symm
      exact ⟨by kernel_rfl, fun j t ht => by
        rw [Tryd.params7] at ht
        have h3 := Array.mem_of_getElem? ht
        simp only [List.mem_toArray, List.mem_cons, List.not_mem_nil, or_false] at h3
        rcases h3 with rfl
        · exact (show Tryd.prog.wantsStandIn 43 = false by kernel_rfl)⟩)
    (by kernel_rfl)

end Go.Proofs.YtddhgkeiiobfeaaDoor
