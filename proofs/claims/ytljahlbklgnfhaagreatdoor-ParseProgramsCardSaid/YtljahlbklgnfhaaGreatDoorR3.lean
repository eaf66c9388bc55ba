import Derived.Test.YtljahlbklgnfhaaGreatDoorA28
import Derived.Test.YtljahlbklgnfhaaGreatDoorZ1
import Derived.Test.YtljahlbklgnfhaaGreatDoorTY
import Derived.Test.YtljahlbklgnfhaaGreatDoorPZ
import Derived.Test.YtljahlbklgnfhaaGreatDoorRows
import Derived.Test.YtljahlbklgnfhaaGreatDoorTie
import Derived.Test.YtljahlbklgnfhaaGreatDoorCards
import Derived.Test.YtljahlbklgnfhaaGreatDoorA41
import Derived.SevenTiedAt
import Derived.Shelf.Vars
set_option linter.unusedVariables false
set_option linter.unusedSimpArgs false
set_option linter.defProp false
set_option maxRecDepth 100000
namespace Go.Proofs.YtljahlbklgnfhaaGreatDoor
open Go.RowKit Go.Abs Go.Abs.U48
theorem own:ownKnob Tryz.prog.godebug=none:=by kernel_rfl
theorem laidOut:laidOutB Tryz.prog=true:=by kernel_rfl
def laids:List (String×DataW Unit):=[("math/bits.deBruijn32tab",Rows.laid_math_bits_deBruijn32tab),("math/bits.deBruijn64tab",Rows.laid_math_bits_deBruijn64tab),("internal/strconv.uint64pow10",Rows.laid_internal_strconv_uint64pow10),("unicode/utf8.acceptRanges",Rows.laid_unicode_utf8_acceptRanges),("strconv.ErrRange",Rows.laid_strconv_ErrRange),("strconv.ErrSyntax",Rows.laid_strconv_ErrSyntax),("unicode/utf8.first",Rows.laid_unicode_utf8_first)]
theorem globals_there(W:World)(h:W.ShapedOpen Tryz.prog)(hX:∃ _a:Array Value,laidMetH Tryz.prog laids W.memory):U48.env.GI W∧U48.env.gN≤W.heap.size:=by
 obtain⟨_,hX⟩:=hX
 have h3:=J4f (g:=1) (t:=133) (n:="strconv.ErrSyntax") hX (by kernel_rfl) (d:=Rows.laid_strconv_ErrSyntax) (by simp[laids]) (by kernel_rfl) (by kernel_rfl) (ms:=_) Tryz.underlying133
 have h4:=J4f (g:=2) (t:=133) (n:="strconv.ErrRange") hX (by kernel_rfl) (d:=Rows.laid_strconv_ErrRange) (by simp[laids]) (by kernel_rfl) (by kernel_rfl) (ms:=_) Tryz.underlying133
 have h5:Lib.TabIs Tryz.prog W.memory "internal/strconv.uint64pow10" .u64 Lib.pow10Tab:=X4b (g:=3) (t:=212) (e:=169) (m:=20) hX (by kernel_rfl) (List.mem_cons_of_mem _ (List.mem_cons_of_mem _ (List.mem_cons.2 (.inl (by kernel_rfl))))) (by kernel_rfl) (by kernel_rfl) Tryz.underlying212 Tryz.underlying169 (by kernel_rfl) (by kernel_rfl)
 refine⟨⟨cell_of_shapedOpen_int (g:=0) (t:=3) (zero:=#[.int .i64 0]) h (of_decide_eq_true (by kernel_rfl)) (by kernel_rfl) rfl (by kernel_rfl) (by kernel_rfl) (by kernel_rfl),h3,h4,h5⟩,?_⟩
 have:3<W.memory.heap.size:=Lib.lt_of_cell (h5.cell (by kernel_rfl) 0 (by decide))
 exact this
theorem parsePrograms_good(ps:List PV)(h:ps.length=1)(ht:∀ (i:Nat) t p,Tryz.f3.params[i]?=some t→ps[i]?=some p→Q6a Tryz.prog 12 t p):Go.Abs.Good U48.env 3 (ps.map AV.pv) [] [.pv (.bool true)] []:=by
 match ps,h with
 | [p0],_=>
   obtain⟨x0,rfl,w0⟩:=ty_9 11 (ht 0 _ p0 rfl rfl)
   exact U48.good_F3 x0 (U48.law3 x0 w0)
set_option maxRecDepth 100000 in
theorem parsePrograms_lifted(os:Os)(started:os.Started)(H:Type)(enc:TypeId×Value→H):
 ReturnsInHanded {} Tryz.checked os 3 .any (fun w args=>(Rows.parseProgramsSpec.pre enc Tryz.prog Tryz.f3 Rows.parseProgramsRow.domain false w args∧laidMetH Tryz.prog laids w)∧sizedMet enc Tryz.prog Tryz.f3 (OpenSpec.ofChange Rows.parseProgramsSpec) false w args)
  (Rows.parseProgramsSpec.post enc Tryz.prog Tryz.f3 false true false false):=
 K2j (E:=U48.env) (C:=Tryz.checked) (X:=fun w _=>laidMetH Tryz.prog laids w) rfl 12 (tb:=4) own started (by kernel_rfl) Tryz.func3 laidOut rfl
  (fun ds hd=>by
    match ds,hd with
    | [d0],_=>rfl) rfl Tryz.underlying4 (by kernel_rfl) globals_there
  (fun ps hl ht=>parsePrograms_good ps hl ht)
  (ChangeSpec.witness_shaped (enc:=enc) (C:=Tryz.checked) (os:=os) (X:=fun w _=>laidMetH Tryz.prog laids w) false (World.laidAll Tryz.prog os laids) #[.string ⟨#[]⟩] 8 (World.laidAll_os _ _ _)
    (World.shaped_of_ZipB (by kernel_rfl) (by kernel_rfl)) (by kernel_rfl) (by kernel_rfl) (by kernel_rfl)
    (by rw[MakeChecks.laidMetH_plain _ _ _ (by kernel_rfl)];exact laidMet_laidAll _ (by kernel_rfl) (by kernel_rfl)))
theorem parsePrograms_holds:Rows.ParseProgramsSaid:=
 OpenClaim.holds_of_wide 3 Tryz.f3 rfl rfl rfl rfl rfl rfl rfl ⟨rfl,rfl,rfl,rfl,rfl⟩ rfl rfl rfl rfl rfl (by kernel_rfl) Tryz.func3 (by kernel_rfl)
  (of_decide_eq_true (by kernel_rfl)) (by unfold Func.isWrapper;first|(rw[if_pos (by decide +kernel)];kernel_rfl)|(rw[if_neg (by decide +kernel)];exact⟨rfl,rfl⟩))
  (fun os started H enc _=>parsePrograms_lifted os started H enc)
theorem parsePrograms_card:Rows.ParseProgramsCardSaid:=
 Claim7.holds_tied_plain_at .later [] [.data,.data,.data,.data,.sentinel,.sentinel,.pinned] true (true,"5a58e839f360197eb770f724caa26f0e114cf4afa948be303cb385fd6aef4dac") true
  parsePrograms_holds (fun _ h=>by cases h) (by kernel_rfl) (fun _ h=>by cases h) parsePrograms_row_tie rfl ⟨rfl,rfl⟩ (by kernel_rfl) rfl
  (fun f fn hf hfn=>by
    obtain rfl:f=3:=Option.some.inj ((show Tryz.prog.funcNamed "filespace/filespacelaw48.ParsePrograms"=some 3 by kernel_rfl).symm.trans hf) |>.symm
    obtain rfl:fn=Tryz.f3:=(Option.some.inj (Tryz.func3.symm.trans hfn)).symm
    exact⟨by kernel_rfl,fun j t ht=>by
     rw[Tryz.params3]at ht
     have h3:=Array.mem_of_getElem? ht
     simp only[List.mem_toArray,List.mem_cons,List.not_mem_nil,or_false]at h3
     rcases h3 with rfl
     ·exact(show Tryz.prog.wantsStandIn 9=false by kernel_rfl)⟩)
  (by kernel_rfl)
end Go.Proofs.YtljahlbklgnfhaaGreatDoor
