import Derived.Test.YtljahlbklgnfhaaGreatDoorA28
import Derived.Test.YtljahlbklgnfhaaGreatDoorZ1
import Derived.Test.YtljahlbklgnfhaaGreatDoorTY
import Derived.Test.YtljahlbklgnfhaaGreatDoorPZ
import Derived.Test.YtljahlbklgnfhaaGreatDoorRows
import Derived.Test.YtljahlbklgnfhaaGreatDoorTie
import Derived.Test.YtljahlbklgnfhaaGreatDoorCards
import Derived.Test.YtljahlbklgnfhaaGreatDoorA41
import Derived.SevenTiedAt
import Derived.Shelf.Vars
set_option linter.unusedVariables false
set_option linter.unusedSimpArgs false
set_option linter.defProp false
set_option maxRecDepth 100000
namespace Go.Proofs.YtljahlbklgnfhaaGreatDoor
open Go.RowKit Go.Abs Go.Abs.U48
theorem own:ownKnob Tryz.prog.godebug=none:=by kernel_rfl
theorem laidOut:laidOutB Tryz.prog=true:=by kernel_rfl
def laids:List (String×DataW Unit):=[("math/bits.deBruijn32tab",Rows.laid_math_bits_deBruijn32tab),("math/bits.deBruijn64tab",Rows.laid_math_bits_deBruijn64tab),("internal/strconv.uint64pow10",Rows.laid_internal_strconv_uint64pow10),("unicode/utf8.acceptRanges",Rows.laid_unicode_utf8_acceptRanges),("strconv.ErrRange",Rows.laid_strconv_ErrRange),("strconv.ErrSyntax",Rows.laid_strconv_ErrSyntax),("unicode/utf8.first",Rows.laid_unicode_utf8_first)]
theorem globals_there(W:World)(h:W.ShapedOpen Tryz.prog)(hX:∃ _a:Array Value,laidMetH Tryz.prog laids W.memory):U48.env.GI W∧U48.env.gN≤W.heap.size:=by
 obtain⟨_,hX⟩:=hX
 have h3:=J5o (g:=1) (t:=133) (n:="strconv.ErrSyntax") hX (by kernel_rfl) (d:=Rows.laid_strconv_ErrSyntax) (by simp[laids]) (by kernel_rfl) (by kernel_rfl) (ms:=_) Tryz.underlying133
 have h4:=J5o (g:=2) (t:=133) (n:="strconv.ErrRange") hX (by kernel_rfl) (d:=Rows.laid_strconv_ErrRange) (by simp[laids]) (by kernel_rfl) (by kernel_rfl) (ms:=_) Tryz.underlying133
 have h5:Lib.TabIs Tryz.prog W.memory "internal/strconv.uint64pow10" .u64 Lib.pow10Tab:=X4i (g:=3) (t:=212) (e:=169) (m:=20) hX (by kernel_rfl) (List.mem_cons_of_mem _ (List.mem_cons_of_mem _ (List.mem_cons.2 (.inl (by kernel_rfl))))) (by kernel_rfl) (by kernel_rfl) Tryz.underlying212 Tryz.underlying169 (by kernel_rfl) (by kernel_rfl)
 refine⟨⟨cell_of_shapedOpen_int (g:=0) (t:=3) (zero:=#[.int .i64 0]) h (of_decide_eq_true (by kernel_rfl)) (by kernel_rfl) rfl (by kernel_rfl) (by kernel_rfl) (by kernel_rfl),h3,h4,h5⟩,?_⟩
 have:3<W.memory.heap.size:=Lib.lt_of_cell (h5.cell (by kernel_rfl) 0 (by decide))
 exact this
theorem parsePrints_good(ps:List PV)(h:ps.length=1)(ht:∀ (i:Nat) t p,Tryz.f5.params[i]?=some t→ps[i]?=some p→∃n,Q1s Tryz.prog n t p):Go.Abs.Good U48.env 5 (ps.map AV.pv) [] [.pv (.bool true)] []:=by
 match ps,h with
 | [p0],_=>
   obtain⟨n0,t0⟩:=ht 0 _ p0 rfl rfl
   obtain⟨x0,rfl,w0⟩:=K2j n0 t0
   exact U48.good_F5 x0 (U48.law5 x0 w0)
set_option maxRecDepth 100000 in
theorem parsePrints_lifted(os:Os)(started:os.Started)(H:Type)(enc:TypeId×Value→H):
 ReturnsInHanded {} Tryz.checked os 5 .any (fun w args=>(Rows.parsePrintsSpec.pre enc Tryz.prog Tryz.f5 Rows.parsePrintsRow.domain false w args∧laidMetH Tryz.prog laids w)∧sizedMet enc Tryz.prog Tryz.f5 (OpenSpec.ofChange Rows.parsePrintsSpec) false w args)
  (Rows.parsePrintsSpec.post enc Tryz.prog Tryz.f5 false true false false):=
 X9i (E:=U48.env) (C:=Tryz.checked) (X:=fun w _=>laidMetH Tryz.prog laids w) rfl [23,36,3,9,33,34,49,51,4] (tb:=4) own started (by kernel_rfl) Tryz.func5 laidOut rfl
  (fun ds hd=>by
    match ds,hd with
    | [d0],_=>rfl) rfl Tryz.underlying4 (by kernel_rfl) (by kernel_rfl) globals_there
  (fun ps hl ht=>parsePrints_good ps hl ht)
  (ChangeSpec.witness_shaped (enc:=enc) (C:=Tryz.checked) (os:=os) (X:=fun w _=>laidMetH Tryz.prog laids w) false (World.laidAll Tryz.prog os laids) #[.slice none 0 0] 8 (World.laidAll_os _ _ _)
    (World.shaped_of_ZipB (by kernel_rfl) (by kernel_rfl)) (by kernel_rfl) (by kernel_rfl) (by kernel_rfl)
    (by rw[MakeChecks.laidMetH_plain _ _ _ (by kernel_rfl)];exact laidMet_laidAll _ (by kernel_rfl) (by kernel_rfl)))
theorem parsePrints_holds:Rows.ParsePrintsSaid:=
 OpenClaim.holds_of_wide 5 Tryz.f5 rfl rfl rfl rfl rfl rfl rfl ⟨rfl,rfl,rfl,rfl,rfl⟩ rfl rfl rfl rfl rfl (by kernel_rfl) Tryz.func5 (by kernel_rfl)
  (of_decide_eq_true (by kernel_rfl)) (by unfold Func.isWrapper;first|(rw[if_pos (by decide +kernel)];kernel_rfl)|(rw[if_neg (by decide +kernel)];exact⟨rfl,rfl⟩))
  (fun os started H enc _=>parsePrints_lifted os started H enc)
theorem parsePrints_card:Rows.ParsePrintsCardSaid:=
 Claim7.holds_tied_plain_at .later [] [.data,.data,.data,.data,.sentinel,.sentinel,.pinned] true (true,"5a58e839f360197eb770f724caa26f0e114cf4afa948be303cb385fd6aef4dac") true
  parsePrints_holds (fun _ h=>by cases h) (by kernel_rfl) (fun _ h=>by cases h) parsePrints_row_tie rfl ⟨rfl,rfl⟩ (by kernel_rfl) rfl
  (fun f fn hf hfn=>by
    obtain rfl:f=5:=Option.some.inj ((show Tryz.prog.funcNamed "filespace/filespacelaw48.ParsePrints"=some 5 by kernel_rfl).symm.trans hf) |>.symm
    obtain rfl:fn=Tryz.f5:=(Option.some.inj (Tryz.func5.symm.trans hfn)).symm
    exact⟨by kernel_rfl,fun j t ht=>by
     rw[Tryz.params5]at ht
     have h3:=Array.mem_of_getElem? ht
     simp only[List.mem_toArray,List.mem_cons,List.not_mem_nil,or_false]at h3
     rcases h3 with rfl
     ·exact(show Tryz.prog.wantsStandIn 23=false by kernel_rfl)⟩)
  (by kernel_rfl)
end Go.Proofs.YtljahlbklgnfhaaGreatDoor
