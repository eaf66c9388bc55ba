import Derived.Test.YtljahlbklgnfhaaGreatDoorA28
import Derived.Test.YtljahlbklgnfhaaGreatDoorZ1
import Derived.Test.YtljahlbklgnfhaaGreatDoorTY
import Derived.Test.YtljahlbklgnfhaaGreatDoorPZ
import Derived.Test.YtljahlbklgnfhaaGreatDoorRows
import Derived.Test.YtljahlbklgnfhaaGreatDoorTie
import Derived.Test.YtljahlbklgnfhaaGreatDoorCards
import Derived.Test.YtljahlbklgnfhaaGreatDoorA41
import Derived.SevenTiedAt
import Derived.Shelf.Vars
set_option linter.unusedVariables false
set_option linter.unusedSimpArgs false
set_option linter.defProp false
set_option maxRecDepth 100000
namespace Go.Proofs.YtljahlbklgnfhaaGreatDoor
open Go.RowKit Go.Abs Go.Abs.U48
theorem own:ownKnob Tryz.prog.godebug=none:=by kernel_rfl
theorem laidOut:laidOutB Tryz.prog=true:=by kernel_rfl
def laids:List (String×DataW Unit):=[("math/bits.deBruijn32tab",Rows.laid_math_bits_deBruijn32tab),("math/bits.deBruijn64tab",Rows.laid_math_bits_deBruijn64tab),("internal/strconv.uint64pow10",Rows.laid_internal_strconv_uint64pow10),("unicode/utf8.acceptRanges",Rows.laid_unicode_utf8_acceptRanges),("strconv.ErrRange",Rows.laid_strconv_ErrRange),("strconv.ErrSyntax",Rows.laid_strconv_ErrSyntax),("unicode/utf8.first",Rows.laid_unicode_utf8_first)]
theorem globals_there(W:World)(h:W.ShapedOpen Tryz.prog)(hX:∃ _a:Array Value,laidMetH Tryz.prog laids W.memory):U48.env.GI W/\U48.env.gN<=W.heap.size:=by
 obtain⟨_,hX⟩:=hX
 have b:=J7d (g:=1) (t:=133) (n:="strconv.ErrSyntax") hX (by kernel_rfl) (d:=Rows.laid_strconv_ErrSyntax) (by simp[laids]) (by kernel_rfl) (by kernel_rfl) (ms:=_) Tryz.underlying133
 have f:=J7d (g:=2) (t:=133) (n:="strconv.ErrRange") hX (by kernel_rfl) (d:=Rows.laid_strconv_ErrRange) (by simp[laids]) (by kernel_rfl) (by kernel_rfl) (ms:=_) Tryz.underlying133
 have a:Lib.TabIs Tryz.prog W.memory "internal/strconv.uint64pow10" .u64 Lib.pow10Tab:=X7m (g:=3) (t:=212) (e:=169) (m:=20) hX (by kernel_rfl) (List.mem_cons_of_mem _ (List.mem_cons_of_mem _ (List.mem_cons.2 (.inl (by kernel_rfl))))) (by kernel_rfl) (by kernel_rfl) Tryz.underlying212 Tryz.underlying169 (by kernel_rfl) (by kernel_rfl)
 refine⟨⟨cell_of_shapedOpen_int (g:=0) (t:=3) (zero:=#[.int .i64 0]) h (of_decide_eq_true (by kernel_rfl)) (by kernel_rfl) rfl (by kernel_rfl) (by kernel_rfl) (by kernel_rfl),b,f,a⟩,?_⟩
 have:3<W.memory.heap.size:=Lib.lt_of_cell (a.cell (by kernel_rfl) 0 (by decide))
 exact this
theorem parsePrograms_good(ps:List PV)(h:ps.length=1)(b:∀ (i:Nat) t p,Tryz.f3.params[i]?=some t->ps[i]?=some p->Q6v Tryz.prog 12 t p):Go.Abs.Good U48.env 3 (ps.map AV.pv) [] [.pv (.bool true)] []:=by
 match ps,h with
 | [d],_=>
   obtain⟨a,rfl,e⟩:=ty_9 11 (b 0 _ d rfl rfl)
   exact U48.good_F3 a (U48.law3 a e)
set_option maxRecDepth 100000 in
theorem parsePrograms_lifted(os:Os)(a:os.Started)(H:Type)(enc:TypeId×Value->H):
 ReturnsInHanded {} Tryz.checked os 3 .any (λw args=>(Rows.parseProgramsSpec.pre enc Tryz.prog Tryz.f3 Rows.parseProgramsRow.domain false w args/\laidMetH Tryz.prog laids w)/\sizedMet enc Tryz.prog Tryz.f3 (OpenSpec.ofChange Rows.parseProgramsSpec) false w args)
  (Rows.parseProgramsSpec.post enc Tryz.prog Tryz.f3 false true false false):=
 K6z (E:=U48.env) (C:=Tryz.checked) (X:=λw _=>laidMetH Tryz.prog laids w) rfl 12 (tb:=4) own a (by kernel_rfl) Tryz.func3 laidOut rfl
  (λds hd=>by
    match ds,hd with
    | [e],_=>rfl) rfl Tryz.underlying4 (by kernel_rfl) globals_there
  (λps b d=>parsePrograms_good ps b d)
  (ChangeSpec.witness_shaped (enc:=enc) (C:=Tryz.checked) (os:=os) (X:=λw _=>laidMetH Tryz.prog laids w) false (World.laidAll Tryz.prog os laids) #[.string ⟨#[]⟩] 8 (World.laidAll_os _ _ _)
    (World.shaped_of_ZipB (by kernel_rfl) (by kernel_rfl)) (by kernel_rfl) (by kernel_rfl) (by kernel_rfl)
    (by rw[MakeChecks.laidMetH_plain _ _ _ (by kernel_rfl)];exact laidMet_laidAll _ (by kernel_rfl) (by kernel_rfl)))
theorem parsePrograms_holds:Rows.ParseProgramsSaid:=
 OpenClaim.holds_of_wide 3 Tryz.f3 rfl rfl rfl rfl rfl rfl rfl ⟨rfl,rfl,rfl,rfl,rfl⟩ rfl rfl rfl rfl rfl (by kernel_rfl) Tryz.func3 (by kernel_rfl)
  (of_decide_eq_true (by kernel_rfl)) (by unfold Func.isWrapper;first|(rw[if_pos (by decide +kernel)];kernel_rfl)|(rw[if_neg (by decide +kernel)];exact⟨rfl,rfl⟩))
  (λos a H enc _=>parsePrograms_lifted os a H enc)
theorem parsePrograms_card:Rows.ParseProgramsCardSaid:=
 Claim7.holds_tied_plain_at .later [] [.data,.data,.data,.data,.sentinel,.sentinel,.pinned] true (true,"5a58e839f360197eb770f724caa26f0e114cf4afa948be303cb385fd6aef4dac") true
  parsePrograms_holds (λ_ h=>by cases h) (by kernel_rfl) (λ_ h=>by cases h) parsePrograms_row_tie rfl ⟨rfl,rfl⟩ (by kernel_rfl) rfl
  (λf fn d e=>by
    obtain rfl:f=3:=Option.some.inj ((show Tryz.prog.funcNamed "filespace/filespacelaw48.ParsePrograms"=some 3 by kernel_rfl).symm.trans d) |>.symm
    obtain rfl:fn=Tryz.f3:=(Option.some.inj (Tryz.func3.symm.trans e)).symm
    exact⟨by kernel_rfl,λj t a=>by
     rw[Tryz.params3]at a
     have b:=Array.mem_of_getElem? a
     simp only[List.mem_toArray,List.mem_cons,List.not_mem_nil,or_false]at b
     rcases b with rfl
     ·exact(show Tryz.prog.wantsStandIn 9=false by kernel_rfl)⟩)
  (by kernel_rfl)
end Go.Proofs.YtljahlbklgnfhaaGreatDoor
