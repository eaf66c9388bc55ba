/- PartsPlumb of package filespacetop holds for every message, and its card: the row by the walks over the abstract machine and the plain law; no condition. -/
import Derived.Test.YtkfcehagblhjaaaGreatDoorA28
import Derived.Test.YtkfcehagblhjaaaGreatDoorZ1
import Derived.Test.YtkfcehagblhjaaaGreatDoorTY
import Derived.Test.YtkfcehagblhjaaaGreatDoorPZ
import Derived.Test.YtkfcehagblhjaaaGreatDoorRows
import Derived.Test.YtkfcehagblhjaaaGreatDoorTie
import Derived.Test.YtkfcehagblhjaaaGreatDoorCards
import Derived.Test.YtkfcehagblhjaaaGreatDoorA41
import Derived.Test.YtkfcehagblhjaaaGreatDoorRC
import Derived.Lib.AtoiErrMem
import Derived.SevenTiedAt
import Derived.Shelf.Vars
set_option linter.unusedVariables false
set_option linter.unusedSimpArgs false
set_option linter.defProp false
set_option maxRecDepth 100000
namespace Go.Proofs.YtkfcehagblhjaaaGreatDoor
open Go.RowKit Go.Abs Go.Abs.U54
theorem own:ownKnob Tryz.prog.godebug=none:=by kernel_rfl
theorem laidOut:laidOutB Tryz.prog=true:=by kernel_rfl
def laids:List (String×DataW Unit):=[("math/bits.deBruijn32tab",Rows.laid_math_bits_deBruijn32tab),("math/bits.deBruijn64tab",Rows.laid_math_bits_deBruijn64tab),("internal/strconv.uint64pow10",Rows.laid_internal_strconv_uint64pow10),("unicode/utf8.acceptRanges",Rows.laid_unicode_utf8_acceptRanges),("strconv.ErrRange",Rows.laid_strconv_ErrRange),("strconv.ErrSyntax",Rows.laid_strconv_ErrSyntax),("unicode/utf8.first",Rows.laid_unicode_utf8_first)]
theorem globals_there(W:World)(h:W.ShapedOpen Tryz.prog)(hX:∃ _a:Array Value,laidMetH Tryz.prog laids W.memory):U54.env.GI W∧U54.env.gN≤W.heap.size:=by
 obtain⟨_,hX⟩:=hX
 have h3:=laid_ifc (g:=6) (t:=144) (n:="strconv.ErrSyntax") hX (by kernel_rfl) (d:=Rows.laid_strconv_ErrSyntax) (by simp[laids]) (by kernel_rfl) (by kernel_rfl) (ms:=_) Tryz.underlying144
 have h4:=laid_ifc (g:=7) (t:=144) (n:="strconv.ErrRange") hX (by kernel_rfl) (d:=Rows.laid_strconv_ErrRange) (by simp[laids]) (by kernel_rfl) (by kernel_rfl) (ms:=_) Tryz.underlying144
 have h5:Lib.TabIs Tryz.prog W.memory "internal/strconv.uint64pow10" .u64 Lib.pow10Tab:=laid_tab (g:=1) (t:=348) (e:=200) (m:=20) hX (by kernel_rfl) (List.mem_cons_of_mem _ (List.mem_cons_of_mem _ (List.mem_cons.2 (.inl (by kernel_rfl))))) (by kernel_rfl) (by kernel_rfl) Tryz.underlying348 Tryz.underlying200 (by kernel_rfl) (by kernel_rfl)
 refine⟨⟨cell_of_shapedOpen_int (g:=0) (t:=3) (zero:=#[.int .i64 0]) h (of_decide_eq_true (by kernel_rfl)) (by kernel_rfl) rfl (by kernel_rfl) (by kernel_rfl) (by kernel_rfl),h3,h4,h5⟩,?_⟩
 obtain⟨ev,hc,_⟩:=h4
 have:7<W.memory.heap.size:=Lib.lt_of_cell hc
 exact this
theorem partsPlumb_good(ps:List PV)(h:ps.length=1)(ht:∀ (i:Nat) t p,Tryz.f3.params[i]?=some t→ps[i]?=some p→Typed Tryz.prog 12 t p):Go.Abs.Good U54.env 3 (ps.map AV.pv) [] [.pv (.bool true)] []:=by
 match ps,h with
 | [p0],_=>
   obtain⟨x0,rfl,w0⟩:=ty_24 8 (ht 0 _ p0 rfl rfl)
   exact U54.good_F3 x0 (U54.law3 x0 w0)
set_option maxRecDepth 100000 in
theorem partsPlumb_lifted(os:Os)(started:os.Started)(H:Type)(enc:TypeId×Value→H):
 ReturnsInHanded {} Tryz.checked os 3 .any (fun w args=>(Rows.partsPlumbSpec.pre enc Tryz.prog Tryz.f3 Rows.partsPlumbRow.domain false w args∧laidMetH Tryz.prog laids w)∧sizedMet enc Tryz.prog Tryz.f3 (OpenSpec.ofChange Rows.partsPlumbSpec) false w args)
  (Rows.partsPlumbSpec.post enc Tryz.prog Tryz.f3 false true false false):=
 lifted (E:=U54.env) (C:=Tryz.checked) (X:=fun w _=>laidMetH Tryz.prog laids w) rfl 12 (tb:=4) own started (by kernel_rfl) Tryz.func3 laidOut rfl
  (fun ds hd=>by
    match ds,hd with
    | [d0],_=>rfl) rfl Tryz.underlying4 (by kernel_rfl) globals_there
  (fun ps hl ht=>partsPlumb_good ps hl ht)
  (ChangeSpec.witness_shaped (enc:=enc) (C:=Tryz.checked) (os:=os) (X:=fun w _=>laidMetH Tryz.prog laids w) false (World.laidAll Tryz.prog os laids) #[.agg #[.string ⟨#[]⟩,.string ⟨#[]⟩,.string ⟨#[]⟩,.string ⟨#[]⟩,.slice none 0 0,.string ⟨#[]⟩]] 8 (World.laidAll_os _ _ _)
    (World.shaped_of_ZipB (by kernel_rfl) (by kernel_rfl)) (by kernel_rfl) (by kernel_rfl) (by kernel_rfl)
    (by rw[MakeChecks.laidMetH_plain _ _ _ (by kernel_rfl)];exact laidMet_laidAll _ (by kernel_rfl) (by kernel_rfl)))
theorem partsPlumb_holds:Rows.PartsPlumbSaid:=
 OpenClaim.holds_of_wide 3 Tryz.f3 rfl rfl rfl rfl rfl rfl rfl ⟨rfl,rfl,rfl,rfl,rfl⟩ rfl rfl rfl rfl rfl cf_named Tryz.func3 closed
  (of_decide_eq_true (by kernel_rfl)) (by unfold Func.isWrapper;first|(rw[if_pos (by decide +kernel)];kernel_rfl)|(rw[if_neg (by decide +kernel)];exact⟨rfl,rfl⟩))
  (fun os started H enc _=>partsPlumb_lifted os started H enc)
theorem partsPlumb_card:Rows.PartsPlumbCardSaid:=
 Claim7.holds_tied_plain_at .later [] [.data,.data,.data,.data,.sentinel,.sentinel,.pinned] true (true,"8f8059c19b267148b68aa929f6b75952f5508ecaa00fd655c2e3044e2a77a9cb") true
  partsPlumb_holds (fun _ h=>by cases h) cf_wf (fun _ h=>by cases h) partsPlumb_row_tie rfl ⟨rfl,rfl⟩ cf_main rfl
  (fun f fn hf hfn=>by
    obtain rfl:f=3:=Option.some.inj (cf_named.symm.trans hf) |>.symm
    obtain rfl:fn=Tryz.f3:=(Option.some.inj (Tryz.func3.symm.trans hfn)).symm
    exact⟨cf_looks,fun j t ht=>by
     rw[Tryz.params3]at ht
     have h3:=Array.mem_of_getElem? ht
     simp only[List.mem_toArray,List.mem_cons,List.not_mem_nil,or_false]at h3
     rcases h3 with rfl
     ·exact cf_want⟩)
  cf_goes
end Go.Proofs.YtkfcehagblhjaaaGreatDoor
