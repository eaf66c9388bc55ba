/- EnvKeeps of The layer 29 laws holds, and its card: the row by the walks over the abstract machine and the plain law; no condition. -/
import Derived.Test.YtkiajanddmgmnaaDoorA25
import Derived.Test.YtkiajanddmgmnaaDoorZ1
import Derived.Test.YtkiajanddmgmnaaDoorTY
import Derived.Test.YtkiajanddmgmnaaDoorPZ
import Derived.Test.YtkiajanddmgmnaaDoorRows
import Derived.Test.YtkiajanddmgmnaaDoorTie
import Derived.Test.YtkiajanddmgmnaaDoorCards
import Derived.SevenTiedAt
import Derived.Shelf.Vars
set_option maxRecDepth 100000
namespace Go.Proofs.YtkiajanddmgmnaaDoor
open Go.RowKit Go.Abs Go.Abs.U29

theorem own : ownKnob Tryd.prog.godebug = none := by kernel_rfl
theorem laidOut : laidOutB Tryd.prog = true := by kernel_rfl

def laids : List (String × DataW Unit) := [("unicode/utf8.acceptRanges", Rows.laid_unicode_utf8_acceptRanges), ("unicode/utf8.first", Rows.laid_unicode_utf8_first)]

theorem globals_there (W : World) (h : W.ShapedOpen Tryd.prog) (_hX : ∃ _a : Array Value, laidMetH Tryd.prog laids W.memory) : U29.env.GI W ∧ U29.env.gN ≤ W.heap.size := by
  refine ⟨cell_of_shapedOpen_int (g := 0) (t := 3) (zero := #[.int .i64 0]) h (of_decide_eq_true (by kernel_rfl)) (by kernel_rfl) rfl (by kernel_rfl) (by kernel_rfl) (by kernel_rfl), ?_⟩
  obtain ⟨cs, hcs, _⟩ := h.1 1 (Array.replicate 256 (.int .u8 0)) 141 (of_decide_eq_true (by kernel_rfl)) (by kernel_rfl)
  exact (Array.getElem?_eq_some_iff.1 hcs).1

theorem envKeeps_good (ps : List PV) (h : ps.length = 1) (ht : ∀ (i : Nat) t p, Tryd.f6.params[i]? = some t → ps[i]? = some p → Typed Tryd.prog 12 t p) : Go.Abs.Good U29.env 6 (ps.map AV.pv) [] [.pv (.bool true)] [] := by
  match ps, h with
  | [p0], _ =>
    obtain ⟨x0, rfl, w0⟩ := ty_59 8 (ht 0 _ p0 rfl rfl)
    exact U29.good_F6 x0 (U29.law6 x0 w0)

set_option maxRecDepth 100000 in
theorem envKeeps_lifted (os : Os) (started : os.Started) (H : Type) (enc : TypeId × Value → H) :
    ReturnsInHanded {} Tryd.checked os 6 .any (fun w args => (Rows.envKeepsSpec.pre enc Tryd.prog Tryd.f6 Rows.envKeepsRow.domain false w args ∧ laidMetH Tryd.prog laids w) ∧ sizedMet enc Tryd.prog Tryd.f6 (OpenSpec.ofChange Rows.envKeepsSpec) false w args)
      (Rows.envKeepsSpec.post enc Tryd.prog Tryd.f6 false true false false) :=
  lifted (E := U29.env) (C := Tryd.checked) (X := fun w _ => laidMetH Tryd.prog laids w) rfl 12 (tb := 4) own started (by kernel_rfl) Tryd.func6 laidOut rfl
    (fun ds hd => by
      match ds, hd with
      | [d0], _ => rfl) rfl Tryd.underlying4 (by kernel_rfl) globals_there
    (fun ps hl ht => envKeeps_good ps hl ht)
    (ChangeSpec.witness_shaped (enc := enc) (C := Tryd.checked) (os := os) (X := fun w _ => laidMetH Tryd.prog laids w) false (World.laidAll Tryd.prog os laids) #[.slice none 0 0] 8 (World.laidAll_os _ _ _)
      (World.shaped_of_ZipB (by kernel_rfl) (by kernel_rfl)) (by kernel_rfl) (by kernel_rfl) (by kernel_rfl)
      (by rw [MakeChecks.laidMetH_plain _ _ _ (by kernel_rfl)]; exact laidMet_laidAll _ (by kernel_rfl) (by kernel_rfl)))

theorem envKeeps_holds : Rows.EnvKeepsSaid :=
  OpenClaim.holds_of_wide 6 Tryd.f6 rfl rfl rfl rfl rfl rfl rfl ⟨rfl, rfl, rfl, rfl, rfl⟩ rfl rfl rfl rfl rfl (by kernel_rfl) Tryd.func6 (by kernel_rfl)
    (of_decide_eq_true (by kernel_rfl)) (by unfold Func.isWrapper; first | (rw [if_pos (by decide +kernel)]; kernel_rfl) | (rw [if_neg (by decide +kernel)]; exact ⟨rfl, rfl⟩))
    (fun os started H enc _ => envKeeps_lifted os started H enc)

theorem envKeeps_card : Rows.EnvKeepsCardSaid :=
  Claim7.holds_tied_plain_at .later [] [.data, .pinned] true (true, "c1c201592e505bc45160832503e3c4fd8b88306155083294d6b990787ccab09d") false
    envKeeps_holds (fun _ h => by cases h) (by kernel_rfl) (fun _ h => by cases h) envKeeps_row_tie rfl ⟨rfl, rfl⟩ (by kernel_rfl) rfl
    (fun f fn hf hfn => by
      obtain rfl : f = 6 := Option.some.inj ((show Tryd.prog.funcNamed "filespace/filespacelaw29.EnvKeeps" = some 6 by kernel_rfl).symm.trans hf) |>.symm
      obtain rfl : fn = Tryd.f6 := (Option.some.inj (Tryd.func6.symm.trans hfn)).symm
      exact ⟨by kernel_rfl, fun j t ht => by
        rw [Tryd.params6] at ht
        have h3 := Array.mem_of_getElem? ht
        simp only [List.mem_toArray, List.mem_cons, List.not_mem_nil, or_false] at h3
        rcases h3 with rfl
        · exact (show Tryd.prog.wantsStandIn 59 = false by kernel_rfl)⟩)
    (by kernel_rfl)

end Go.Proofs.YtkiajanddmgmnaaDoor
