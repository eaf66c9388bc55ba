import Derived.Test.YtljahlbklgnfhaaGreatDoorA28
import Derived.Test.YtljahlbklgnfhaaGreatDoorZ1
import Derived.Test.YtljahlbklgnfhaaGreatDoorTY
import Derived.Test.YtljahlbklgnfhaaGreatDoorPZ
import Derived.Test.YtljahlbklgnfhaaGreatDoorRows
import Derived.Test.YtljahlbklgnfhaaGreatDoorTie
import Derived.Test.YtljahlbklgnfhaaGreatDoorCards
import Derived.Test.YtljahlbklgnfhaaGreatDoorA45
import Derived.SevenTiedAt
import Derived.Shelf.Vars
set_option linter.unusedVariables false
set_option linter.unusedSimpArgs false
set_option linter.defProp false
set_option maxRecDepth 100000
namespace Go.Proofs.YtljahlbklgnfhaaGreatDoor
open Go.RowKit Go.Abs Go.Abs.U48
open Go.Proofs.Tryz
theorem own:ownKnob prog.godebug=none:=by kernel_rfl
theorem laidOut:laidOutB prog=true:=by kernel_rfl
def laids:List (String×DataW Unit):=[("math/bits.deBruijn32tab",Rows.laid_math_bits_deBruijn32tab),("math/bits.deBruijn64tab",Rows.laid_math_bits_deBruijn64tab),("internal/strconv.uint64pow10",Rows.laid_internal_strconv_uint64pow10),("unicode/utf8.acceptRanges",Rows.laid_unicode_utf8_acceptRanges),("strconv.ErrRange",Rows.laid_strconv_ErrRange),("strconv.ErrSyntax",Rows.laid_strconv_ErrSyntax),("unicode/utf8.first",Rows.laid_unicode_utf8_first)]
theorem globals_there(W:World)(h:W.ShapedOpen prog)(hX:∃ _a:Array Value,laidMetH prog laids W.memory):U48.env.GI W/\U48.env.gN<=W.heap.size:=by
 obtain⟨_,hX⟩:=hX
 have b:=X1z (g:=1) (t:=133) (n:="strconv.ErrSyntax") hX (by kernel_rfl) (d:=Rows.laid_strconv_ErrSyntax) (by simp[laids]) (by kernel_rfl) (by kernel_rfl) (ms:=_) underlying133
 have f:=X1z (g:=2) (t:=133) (n:="strconv.ErrRange") hX (by kernel_rfl) (d:=Rows.laid_strconv_ErrRange) (by simp[laids]) (by kernel_rfl) (by kernel_rfl) (ms:=_) underlying133
 have a:Lib.TabIs prog W.memory "internal/strconv.uint64pow10" .u64 Lib.pow10Tab:=K4c (g:=3) (t:=212) (e:=169) (m:=20) hX (by kernel_rfl) (List.mem_cons_of_mem _ (List.mem_cons_of_mem _ (List.mem_cons.2 (.inl (by kernel_rfl))))) (by kernel_rfl) (by kernel_rfl) underlying212 underlying169 (by kernel_rfl) (by kernel_rfl)
 refine⟨⟨cell_of_shapedOpen_int (g:=0) (t:=3) (zero:=#[.int .i64 0]) h (of_decide_eq_true (by kernel_rfl)) (by kernel_rfl) rfl (by kernel_rfl) (by kernel_rfl) (by kernel_rfl),b,f,a⟩,?_⟩
 have:3<W.memory.heap.size:=Lib.lt_of_cell (a.cell (by kernel_rfl) 0 (by decide))
 exact this
theorem parseReturns_good(ps:List PV)(h:ps.length=1)(b:∀ (i:Nat) t p,Tryz.f6.params[i]?=some t->ps[i]?=some p->∃n,Q1w prog n t p):Go.Abs.Good U48.env 6 (ps.map AV.pv) [] [.pv (.bool true)] []:=by
 match ps,h with
 | [d],_=>
   obtain⟨e,t0⟩:=b 0 _ d rfl rfl
   obtain⟨a,rfl,w0⟩:=V4j e t0
   exact U48.good_F6 a (U48.law6 a w0)
set_option maxRecDepth 100000 in
theorem parseReturns_lifted(os:Os)(a:os.Started)(H:Type)(enc:TypeId×Value->H):
 ReturnsInHanded {} checked os 6 .any (λw args=>(Rows.parseReturnsSpec.pre enc prog Tryz.f6 Rows.parseReturnsRow.domain false w args/\laidMetH prog laids w)/\sizedMet enc prog Tryz.f6 (OpenSpec.ofChange Rows.parseReturnsSpec) false w args)
  (Rows.parseReturnsSpec.post enc prog Tryz.f6 false true false false):=
 V0s (E:=U48.env) (C:=checked) (X:=λw _=>laidMetH prog laids w) rfl [23,36,3,9,33,34,49,51,4] (tb:=4) own a (by kernel_rfl) func6 laidOut rfl
  (λds hd=>by
    match ds,hd with
    | [e],_=>rfl) rfl underlying4 (by kernel_rfl) (by kernel_rfl) globals_there
  (λps b d=>parseReturns_good ps b d)
  (ChangeSpec.witness_shaped (enc:=enc) (C:=checked) (os:=os) (X:=λw _=>laidMetH prog laids w) false (World.laidAll prog os laids) #[.slice none 0 0] 8 (World.laidAll_os _ _ _)
    (World.shaped_of_ZipB (by kernel_rfl) (by kernel_rfl)) (by kernel_rfl) (by kernel_rfl) (by kernel_rfl)
    (by rw[MakeChecks.laidMetH_plain _ _ _ (by kernel_rfl)];exact laidMet_laidAll _ (by kernel_rfl) (by kernel_rfl)))
theorem parseReturns_holds:Rows.ParseReturnsSaid:=
 OpenClaim.holds_of_wide 6 Tryz.f6 rfl rfl rfl rfl rfl rfl rfl ⟨rfl,rfl,rfl,rfl,rfl⟩ rfl rfl rfl rfl rfl (by kernel_rfl) func6 (by kernel_rfl)
  (of_decide_eq_true (by kernel_rfl)) (by unfold Func.isWrapper;first|(rw[if_pos (by decide +kernel)];kernel_rfl)|(rw[if_neg (by decide +kernel)];exact⟨rfl,rfl⟩))
  (λos a H enc _=>parseReturns_lifted os a H enc)
theorem parseReturns_card:Rows.ParseReturnsCardSaid:=
 Claim7.holds_tied_plain_at .later [] [.data,.data,.data,.data,.sentinel,.sentinel,.pinned] true (true,"5a58e839f360197eb770f724caa26f0e114cf4afa948be303cb385fd6aef4dac") true
  parseReturns_holds (λ_ h=>by cases h) (by kernel_rfl) (λ_ h=>by cases h) parseReturns_row_tie rfl ⟨rfl,rfl⟩ (by kernel_rfl) rfl
  (λf fn d e=>by
    obtain rfl:f=6:=Option.some.inj ((show prog.funcNamed "filespace/filespacelaw48.ParseReturns"=some 6 by kernel_rfl).symm.trans d) |>.symm
    obtain rfl:fn=Tryz.f6:=(Option.some.inj (func6.symm.trans e)).symm
    exact⟨by kernel_rfl,λj t a=>by
     rw[Tryz.params6]at a
     have b:=Array.mem_of_getElem? a
     simp only[List.mem_toArray,List.mem_cons,List.not_mem_nil,or_false]at b
     rcases b with rfl
     ·exact(show prog.wantsStandIn 23=false by kernel_rfl)⟩)
  (by kernel_rfl)
end Go.Proofs.YtljahlbklgnfhaaGreatDoor
