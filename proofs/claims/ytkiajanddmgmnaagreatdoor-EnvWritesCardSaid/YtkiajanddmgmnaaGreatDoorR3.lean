/- EnvWrites of The layer 29 laws holds, and its card: the row by the walks over the abstract machine and the plain law; no condition. -/
import Derived.Test.YtkiajanddmgmnaaGreatDoorA25
import Derived.Test.YtkiajanddmgmnaaGreatDoorZ1
import Derived.Test.YtkiajanddmgmnaaGreatDoorTY
import Derived.Test.YtkiajanddmgmnaaGreatDoorPZ
import Derived.Test.YtkiajanddmgmnaaGreatDoorRows
import Derived.Test.YtkiajanddmgmnaaGreatDoorTie
import Derived.Test.YtkiajanddmgmnaaGreatDoorCards
import Derived.SevenTiedAt
import Derived.Shelf.Vars
set_option maxRecDepth 100000
namespace Go.Proofs.YtkiajanddmgmnaaGreatDoor
open Go.RowKit Go.Abs Go.Abs.U2Z

theorem own : ownKnob Tryz.prog.godebug = none := by kernel_rfl
theorem laidOut : laidOutB Tryz.prog = true := by kernel_rfl

def laids : List (String × DataW Unit) := [("unicode/utf8.acceptRanges", Rows.laid_unicode_utf8_acceptRanges), ("unicode/utf8.first", Rows.laid_unicode_utf8_first)]

theorem globals_there (W : World) (h : W.ShapedOpen Tryz.prog) (_hX : ∃ _a : Array Value, laidMetH Tryz.prog laids W.memory) : U2Z.env.GI W ∧ U2Z.env.gN ≤ W.heap.size := by
  refine ⟨cell_of_shapedOpen_int (g := 0) (t := 3) (zero := #[.int .i64 0]) h (of_decide_eq_true (by kernel_rfl)) (by kernel_rfl) rfl (by kernel_rfl) (by kernel_rfl) (by kernel_rfl), ?_⟩
  obtain ⟨cs, hcs, _⟩ := h.1 1 (Array.replicate 256 (.int .u8 0)) 124 (of_decide_eq_true (by kernel_rfl)) (by kernel_rfl)
  exact (Array.getElem?_eq_some_iff.1 hcs).1

theorem envWrites_good (ps : List PV) (h : ps.length = 2) (ht : ∀ (i : Nat) t p, Tryz.f3.params[i]? = some t → ps[i]? = some p → Typed Tryz.prog 12 t p) : Go.Abs.Good U2Z.env 3 (ps.map AV.pv) [] [.pv (.bool true)] [] := by
  match ps, h with
  | [p0, p1], _ =>
    obtain ⟨x0, rfl, w0⟩ := ty_22 6 (ht 0 _ p0 rfl rfl)
    obtain ⟨x1, rfl, w1⟩ := ty_25 9 (ht 1 _ p1 rfl rfl)
    exact U2Z.good_F3 x0 x1 (U2Z.law3 x0 w0 x1 w1)

set_option maxRecDepth 100000 in
theorem envWrites_lifted (os : Os) (started : os.Started) (H : Type) (enc : TypeId × Value → H) :
    ReturnsInHanded {} Tryz.checked os 3 .any (fun w args => (Rows.envWritesSpec.pre enc Tryz.prog Tryz.f3 Rows.envWritesRow.domain false w args ∧ laidMetH Tryz.prog laids w) ∧ sizedMet enc Tryz.prog Tryz.f3 (OpenSpec.ofChange Rows.envWritesSpec) false w args)
      (Rows.envWritesSpec.post enc Tryz.prog Tryz.f3 false true false false) :=
  lifted (E := U2Z.env) (C := Tryz.checked) (X := fun w _ => laidMetH Tryz.prog laids w) rfl 12 (tb := 4) own started (by kernel_rfl) Tryz.func3 laidOut rfl
    (fun ds hd => by
      match ds, hd with
      | [d0, d1], _ => rfl) rfl Tryz.underlying4 (by kernel_rfl) globals_there
    (fun ps hl ht => envWrites_good ps hl ht)
    (ChangeSpec.witness_shaped (enc := enc) (C := Tryz.checked) (os := os) (X := fun w _ => laidMetH Tryz.prog laids w) false (World.laidAll Tryz.prog os laids) #[.slice none 0 0, .agg #[.int .i64 0, .int .i64 0, .int .i64 0, .int .i64 0, .string ⟨#[]⟩, .slice none 0 0, .int .i64 0, .string ⟨#[]⟩]] 8 (World.laidAll_os _ _ _)
      (World.shaped_of_ZipB (by kernel_rfl) (by kernel_rfl)) (by kernel_rfl) (by kernel_rfl) (by kernel_rfl)
      (by rw [MakeChecks.laidMetH_plain _ _ _ (by kernel_rfl)]; exact laidMet_laidAll _ (by kernel_rfl) (by kernel_rfl)))

theorem envWrites_holds : Rows.EnvWritesSaid :=
  OpenClaim.holds_of_wide 3 Tryz.f3 rfl rfl rfl rfl rfl rfl rfl ⟨rfl, rfl, rfl, rfl, rfl⟩ rfl rfl rfl rfl rfl (by kernel_rfl) Tryz.func3 (by kernel_rfl)
    (of_decide_eq_true (by kernel_rfl)) (by unfold Func.isWrapper; first | (rw [if_pos (by decide +kernel)]; kernel_rfl) | (rw [if_neg (by decide +kernel)]; exact ⟨rfl, rfl⟩))
    (fun os started H enc _ => envWrites_lifted os started H enc)

theorem envWrites_card : Rows.EnvWritesCardSaid :=
  Claim7.holds_tied_plain_at .later [] [.data, .pinned] true (true, "8510198b00dd45e78a0fcbedd055615def659aff2437261450f1eb3458cfb298") false
    envWrites_holds (fun _ h => by cases h) (by kernel_rfl) (fun _ h => by cases h) envWrites_row_tie rfl ⟨rfl, rfl⟩ (by kernel_rfl) rfl
    (fun f fn hf hfn => by
      obtain rfl : f = 3 := Option.some.inj ((show Tryz.prog.funcNamed "filespace/filespacelaw29.EnvWrites" = some 3 by kernel_rfl).symm.trans hf) |>.symm
      obtain rfl : fn = Tryz.f3 := (Option.some.inj (Tryz.func3.symm.trans hfn)).symm
      exact ⟨by kernel_rfl, fun j t ht => by
        rw [Tryz.params3] at ht
        have h3 := Array.mem_of_getElem? ht
        simp only [List.mem_toArray, List.mem_cons, List.not_mem_nil, or_false] at h3
        rcases h3 with rfl | rfl
        · exact (show Tryz.prog.wantsStandIn 22 = false by kernel_rfl)
        · exact (show Tryz.prog.wantsStandIn 25 = false by kernel_rfl)⟩)
    (by kernel_rfl)

end Go.Proofs.YtkiajanddmgmnaaGreatDoor
