import Derived.Shelf.Strings.Builder1
import Derived.Shelf.Strings.Builder2
import Derived.Shelf.Strings.OnBuilder
import Derived.Shelf.Small.Strs
import Derived.Shelf.Strings.BuilderF
import Derived.Shelf.Strings.BuilderK
import Derived.Shelf.Strings.Builder2Cap
import Derived.Shelf.Strconv.Atoi
import Derived.Shelf.Strconv.Itoa0
import Derived.Shelf.Strconv.Itoa1
import Derived.Shelf.LaysM
import Derived.Shelf.Strconv.Itoa2
import Derived.Shelf.Strconv.Itoa3
import Derived.Shelf.Strconv.AtoiErrFast
import Derived.Shelf.Strconv.ParseIntEmpty
import Derived.Shelf.Strconv.AtoiFail
import Derived.Shelf.Strconv.Clone
import Derived.Shelf.Strconv.SyntaxError
import Derived.Shelf.LaysC
import Derived.Shelf.Strconv.ToError
import Derived.Shelf.Strconv.Lower
import Derived.Shelf.Strconv.ParseUint10
import Derived.Shelf.Strconv.ParseUint10Empty
import Derived.Shelf.Strconv.ParseUint10Any
import Derived.Shelf.Strconv.ParseInt10
import Derived.Shelf.Strconv.AtoiLong
import Derived.Shelf.Strconv.AtoiInnerAll
import Derived.Shelf.Strconv.RangeError
import Derived.Shelf.Strconv.ToErrorRange
import Derived.Shelf.Strconv.AtoiAll
import Derived.Shelf.Strconv.ErrVarAll
import Derived.Shelf.Strings.Search1
import Derived.Shelf.Strings.Search2
import Derived.Shelf.Strings.Search3
import Derived.Shelf.Strings.Cut
import Derived.Shelf.Strings.Count
import Derived.Shelf.Strings.Shaped
import Derived.Shelf.Strings.Prefix
import Derived.Shelf.Strings.Split
import Derived.Shelf.Strings.Replace
import Derived.Shelf.Strings.SplitShaped
import Derived.Shelf.Unicode.Decode
import Derived.Shelf.Strings.RuneCount
import Derived.Shelf.Strings.Explode
import Derived.Shelf.Bits.Mul64
import Derived.Shelf.Strings.Repeat
import Derived.Shelf.Unicode.DecodeSlow
import Derived.Shelf.Strings.BuilderCap
import Derived.Shelf.Slices.Turned
import Derived.Test.YtljahlbklgnfhaaGreatDoorProg
set_option linter.unusedVariables false
set_option linter.defProp false
namespace Go.Proofs
open Go.Shelf
open Go.Proofs.Tryz
def Z0x:Go.Shelf.Ren:=⟨λ|169=>36|n=>n,λ|70=>57|9=>9|0=>0|72=>60|37=>58|127=>96|3=>3|5=>5|n=>n,λ|n=>n⟩
theorem X5n:Go.Proofs.Lays.n169 prog Z0x:=by
 repeat' first|kernel_rfl|decide|intro _|constructor
theorem Z0l:Builder.Extra prog Z0x:=by
 repeat' first|kernel_rfl|decide|intro _|constructor
def Z1a:Go.Shelf.Ren:=⟨λ|156=>119|165=>162|166=>123|169=>36|240=>163|241=>195|276=>196|277=>220|n=>n,λ|31=>42|9=>9|3=>3|4=>4|0=>0|20=>20|72=>60|76=>135|70=>57|37=>58|75=>133|127=>96|164=>164|5=>5|80=>64|n=>n,λ|n=>n⟩
theorem J1s:Go.Proofs.Lays.n156 prog Z1a:=by
 repeat' first|kernel_rfl|decide|intro _|constructor
theorem Q4y:Builder.Extra prog Z1a:=by
 repeat' first|kernel_rfl|decide|intro _|constructor
open Go.RowKit in
theorem Q2w(a:Option Addr)(c:Nat)(b:ByteArray)(w:World):
 Calls prog 119 #[.slice a 0 c,.string b] w λe w'=>e=.returned (.string ⟨#[]⟩)/\w'=w:=Any.strings_Join_none J1s Q4y a c b w
open Go.RowKit in
theorem Z9e(a o c:Nat)(xs:List ByteArray)(b:ByteArray)(w:World)(d:∀ (j:Nat) x,xs[j]?=some x->w.cell? ⟨a,o+j,none⟩=some (.string x))(f:a<w.heap.size)(g:xs.length<=140737488355328)(i:xs.length<=c)(l:(Lib.join (xs.map (·.data.toList)) b.data.toList).length<=140737488355328):
 Calls prog 119 #[.slice (some ⟨a,o,none⟩) xs.length c,.string b] w λe w'=>e=.returned (.string ⟨(Lib.join (xs.map (·.data.toList)) b.data.toList).toArray⟩)/\Below w.heap.size w w':=Any.strings_Join J1s Q4y a o c xs b w d f g i l
def J0q:Go.Shelf.Ren:=⟨λ|137=>40|217=>70|266=>116|n=>n,λ|9=>9|5=>5|3=>3|n=>n,λ|n=>n⟩
theorem X5u:Go.Proofs.Lays.n137 prog J0q:=by
 repeat' first|kernel_rfl|decide|intro _|constructor
open Go.RowKit in
theorem Z0k(s:ByteArray)(c:Int)(w:World):
 Calls prog 40 #[.string s,.int .u8 c] w λe w'=>e=.returned (.int .i64 (Lib.indexByte s.data.toList c.toNat.toUInt8))/\w'=w:=Any.strings_IndexByte X5u s c w
def K2n:Go.Shelf.Ren:=⟨λ|172=>199|244=>221|245=>222|247=>247|279=>248|280=>249|281=>250|282=>251|287=>271|316=>272|171=>189|205=>273|321=>284|322=>285|243=>215|246=>239|283=>265|284=>266|285=>267|286=>268|129=>280|317=>279|318=>281|319=>282|320=>283|337=>289|338=>290|n=>n,λ|9=>9|3=>3|75=>133|76=>135|4=>4|5=>5|167=>190|37=>58|0=>0|85=>191|2=>2|168=>193|53=>169|175=>205|46=>152|210=>208|127=>96|145=>223|143=>221|21=>21|171=>199|173=>202|212=>212|51=>166|20=>20|213=>213|232=>225|233=>226|80=>64|n=>n,λ|15=>1|16=>2|17=>3|18=>6|19=>7|n=>n⟩
def K1a:Go.Shelf.Ren:=⟨λ|246=>239|283=>265|284=>266|285=>267|286=>268|129=>280|317=>279|318=>281|319=>282|320=>283|337=>289|338=>290|n=>n,λ|2=>2|3=>3|9=>9|4=>4|171=>199|0=>0|53=>169|37=>58|5=>5|173=>202|212=>212|51=>166|20=>20|213=>213|46=>152|232=>225|233=>226|n=>n,λ|17=>3|18=>6|19=>7|n=>n⟩
def K1b:Go.Shelf.Ren:=⟨λ|243=>215|246=>239|283=>265|284=>266|285=>267|286=>268|129=>280|317=>279|318=>281|319=>282|320=>283|337=>289|338=>290|n=>n,λ|3=>3|9=>9|2=>2|4=>4|171=>199|0=>0|53=>169|37=>58|5=>5|173=>202|212=>212|51=>166|20=>20|213=>213|46=>152|232=>225|233=>226|n=>n,λ|17=>3|18=>6|19=>7|n=>n⟩
def K1c:Go.Shelf.Ren:=⟨λ|171=>189|243=>215|246=>239|283=>265|284=>266|285=>267|286=>268|129=>280|317=>279|318=>281|319=>282|320=>283|337=>289|338=>290|n=>n,λ|3=>3|9=>9|2=>2|4=>4|171=>199|0=>0|53=>169|37=>58|5=>5|173=>202|212=>212|51=>166|20=>20|213=>213|46=>152|232=>225|233=>226|n=>n,λ|17=>3|18=>6|19=>7|n=>n⟩
def J0m:Go.Shelf.Ren:=⟨λ|171=>189|243=>215|246=>239|283=>265|284=>266|285=>267|286=>268|129=>280|317=>279|318=>281|319=>282|320=>283|337=>289|338=>290|n=>n,λ|3=>3|9=>9|2=>2|4=>4|171=>199|0=>0|53=>169|37=>58|5=>5|173=>202|212=>212|51=>166|20=>20|213=>213|46=>152|232=>225|233=>226|n=>n,λ|17=>3|18=>6|19=>7|n=>n⟩
theorem X5m:Go.Proofs.Lays.n171 prog J0m:=by
 repeat' first|kernel_rfl|decide|intro _|constructor
open Go.RowKit Go.Sort Go.Lib in
theorem Q9k(i:Nat)(a:i<100)(w:World):
 Calls prog 189 #[.int .i64 i] w λe w'=>e=.returned (.string ⟨(Lib.decDigits i).toArray⟩)/\w'=w:=Any.strconv_Itoa_small X5m i a w
def Z9f:Go.Shelf.Ren:=⟨λ|172=>199|244=>221|245=>222|247=>247|279=>248|280=>249|281=>250|282=>251|287=>271|316=>272|171=>189|205=>273|321=>284|322=>285|243=>215|246=>239|283=>265|284=>266|285=>267|286=>268|129=>280|317=>279|318=>281|319=>282|320=>283|337=>289|338=>290|n=>n,λ|9=>9|3=>3|75=>133|76=>135|4=>4|5=>5|167=>190|37=>58|0=>0|85=>191|2=>2|168=>193|53=>169|175=>205|46=>152|210=>208|127=>96|145=>223|143=>221|21=>21|171=>199|173=>202|212=>212|51=>166|20=>20|213=>213|232=>225|233=>226|80=>64|n=>n,λ|15=>1|16=>2|17=>3|18=>6|19=>7|n=>n⟩
theorem Z1t:Go.Proofs.LaysC.n172 prog Z9f:=by
 repeat' first|kernel_rfl|decide|intro _|constructor
open Go.RowKit in
theorem Z3d(s:ByteArray)(a:s.size<=9223372036854775806)(v:Int)(h:Lib.atoiAll s.data.toList=.ok v)(w:World):
 Calls prog 199 #[.string s] w λe w'=>e=.returned (.tuple #[.int .i64 v,.nilIface])/\(w'=w\/∃t,w'=Lib.bytesWorld w 5 t):=Any.strconv_Atoi_ok Z1t s a v h w
open Go.RowKit in
theorem Q8k(s:ByteArray)(a:s.size<=281474976710656)(h:Lib.atoiAll s.data.toList=Lib.NumEnd.syntax)(ev:Value)(w:World)(b:w.cell? ⟨1,0,none⟩=some ev)(d:ev=.nilIface\/∃f g,ev=.iface f g):
 Calls prog 199 #[.string s] w λe w'=>∃N,e=.returned (.tuple #[.int .i64 (0),.iface 193 (.pointer (some ⟨N,0,none⟩))])/\w.heap.size<=N/\w'.heap[N]?=some (.cells #[.string ⟨#[65,116,111,105]⟩,.string s,ev] 208 (0,0))/\Below w.heap.size w w':=Any.strconv_Atoi_syntax Z1t s a h ev w b d
open Go.RowKit in
theorem Q9l(s:ByteArray)(a:s.size<=281474976710656)(h:Lib.atoiAll s.data.toList=.range)(ev:Value)(w:World)(b:w.cell? ⟨2,0,none⟩=some ev)(d:ev=.nilIface\/∃f g,ev=.iface f g):
 Calls prog 199 #[.string s] w λe w'=>∃N,e=.returned (.tuple #[.int .i64 (Lib.atoiSat s.data.toList),.iface 193 (.pointer (some ⟨N,0,none⟩))])/\w.heap.size<=N/\w'.heap[N]?=some (.cells #[.string ⟨#[65,116,111,105]⟩,.string s,ev] 208 (0,0))/\Below w.heap.size w w':=Any.strconv_Atoi_range Z1t s a h ev w b d
def K2m:Go.Shelf.Ren:=⟨λ|219=>219|217=>70|225=>244|224=>245|267=>246|266=>116|314=>270|n=>n,λ|9=>9|3=>3|4=>4|5=>5|46=>152|146=>167|51=>166|n=>n,λ|1=>0|n=>n⟩
def J0p:Go.Shelf.Ren:=⟨λ|144=>169|143=>201|219=>219|217=>70|225=>244|224=>245|267=>246|266=>116|314=>270|n=>n,λ|9=>9|4=>4|3=>3|5=>5|46=>152|146=>167|51=>166|n=>n,λ|1=>0|n=>n⟩
theorem X5t:Go.Proofs.Lays.n144 prog J0p:=by
 repeat' first|kernel_rfl|decide|intro _|constructor
open Go.RowKit Go.Lib in
theorem Z1s(s sub:ByteArray)(m:Int)(w:World)(hs:s.size<4294967281)(a:w.cell? ⟨0,0,none⟩=some (.int .i64 m)):
 Calls prog 169 #[.string s,.string sub] w λe w'=>e=.returned (.bool (Lib.contains s.data.toList sub.data.toList))/\w'=w:=Any.strings_Contains X5t s sub m w hs a
def J0o:Go.Shelf.Ren:=⟨λ|145=>161|220=>194|219=>219|217=>70|225=>244|224=>245|267=>246|266=>116|314=>270|n=>n,λ|9=>9|4=>4|59=>99|3=>3|5=>5|46=>152|146=>167|51=>166|n=>n,λ|1=>0|n=>n⟩
theorem X5s:Go.Proofs.Lays.n145 prog J0o:=by
 repeat' first|kernel_rfl|decide|intro _|constructor
open Go.RowKit Go.Lib in
theorem J0l(s a:ByteArray)(m:Int)(w:World)(hs:s.size<4294967281)(b:w.cell? ⟨0,0,none⟩=some (.int .i64 m)):
 Calls prog 161 #[.string s,.string a] w λe w'=>e=.returned (.tuple #[.string ⟨(Lib.cut s.data.toList a.data.toList).1.toArray⟩,.string ⟨(Lib.cut s.data.toList a.data.toList).2.1.toArray⟩,.bool (Lib.cut s.data.toList a.data.toList).2.2])/\∃n,w'=w.drewN n:=Any.strings_Cut X5s s a m w hs b
def K2l:Go.Shelf.Ren:=⟨λ|221=>192|268=>217|138=>218|143=>201|195=>241|197=>242|218=>243|219=>219|260=>269|217=>70|225=>244|224=>245|267=>246|266=>116|314=>270|n=>n,λ|9=>9|3=>3|31=>42|4=>4|0=>0|105=>188|21=>21|5=>5|46=>152|119=>216|139=>219|138=>218|146=>167|51=>166|n=>n,λ|1=>0|3=>4|4=>5|n=>n⟩
def J0n:Go.Shelf.Ren:=⟨λ|146=>156|221=>192|268=>217|138=>218|143=>201|195=>241|197=>242|218=>243|219=>219|260=>269|217=>70|225=>244|224=>245|267=>246|266=>116|314=>270|n=>n,λ|9=>9|31=>42|3=>3|4=>4|0=>0|105=>188|21=>21|5=>5|46=>152|119=>216|139=>219|138=>218|146=>167|51=>166|n=>n,λ|1=>0|3=>4|4=>5|n=>n⟩
theorem X5r:Go.Proofs.Lays.n146 prog J0n:=by
 repeat' first|kernel_rfl|decide|intro _|constructor
open Go.RowKit Go.Lib in
theorem Z6f(s a:ByteArray)(m:Int)(w:World)(hs:s.size<4294967281)(b:w.cell? ⟨0,0,none⟩=some (.int .i64 m))(d:1<=a.size):
 Calls prog 156 #[.string s,.string a] w λe w'=>
  e=.returned (.slice (some ⟨w.heap.size,0,none⟩) (Lib.countB s a+1) (Lib.countB s a+1))/\w'=w.alloc (.cells ((Lib.splitB a 0 (Lib.countB s a) s).map Value.string).toArray 9):=Any.strings_Split X5r (by kernel_rfl) s a m w hs b d
def K2o:Go.Shelf.Ren:=⟨λ|154=>240|138=>218|165=>162|143=>201|166=>123|197=>242|169=>36|195=>241|218=>243|240=>163|241=>195|219=>219|260=>269|276=>196|277=>220|217=>70|225=>244|224=>245|267=>246|266=>116|314=>270|n=>n,λ|9=>9|3=>3|4=>4|72=>60|0=>0|76=>135|105=>188|21=>21|5=>5|70=>57|20=>20|37=>58|75=>133|127=>96|164=>164|46=>152|119=>216|139=>219|138=>218|146=>167|51=>166|80=>64|n=>n,λ|1=>0|3=>4|4=>5|n=>n⟩
def Z1b:Go.Shelf.Ren:=⟨λ|155=>216|154=>240|138=>218|165=>162|143=>201|166=>123|197=>242|169=>36|195=>241|218=>243|240=>163|241=>195|219=>219|260=>269|276=>196|277=>220|217=>70|225=>244|224=>245|267=>246|266=>116|314=>270|n=>n,λ|9=>9|3=>3|4=>4|72=>60|0=>0|76=>135|105=>188|21=>21|5=>5|70=>57|20=>20|37=>58|75=>133|127=>96|164=>164|46=>152|119=>216|139=>219|138=>218|146=>167|51=>166|80=>64|n=>n,λ|1=>0|3=>4|4=>5|n=>n⟩
theorem X5q:Go.Proofs.Lays.n155 prog Z1b:=by
 repeat' first|kernel_rfl|decide|intro _|constructor
theorem Z0o:Builder.Extra prog Z1b:=by
 repeat' first|kernel_rfl|decide|intro _|constructor
open Go.RowKit Go.Lib in
theorem Q9j(s old a:ByteArray)(m:Int)(w:World)(hs:s.size<4294967281)(b:w.cell? ⟨0,0,none⟩=some (.int .i64 m))(d:1<=old.size)(f:s.size+Lib.countB s old * a.size<=140737488355328):
 Calls prog 216 #[.string s,.string old,.string a] w λe w'=>
  e=.returned (.string ⟨(Lib.replaceAll s.data.toList old.data.toList a.data.toList).toArray⟩)/\Below w.heap.size w w':=Any.strings_ReplaceAll X5q Z0o s old a m w hs b d f
def Z1c:Go.Shelf.Ren:=⟨λ|105=>124|212=>164|99=>42|165=>162|166=>123|170=>165|169=>36|263=>197|264=>198|206=>74|240=>163|241=>195|276=>196|277=>220|n=>n,λ|9=>9|3=>3|4=>4|20=>20|0=>0|46=>152|109=>153|5=>5|72=>60|76=>135|51=>166|146=>167|53=>169|148=>170|70=>57|37=>58|75=>133|127=>96|164=>164|80=>64|n=>n,λ|n=>n⟩
theorem X5v:Go.Proofs.Lays.n105 prog Z1c:=by
 repeat' first|kernel_rfl|decide|intro _|constructor
theorem Z0p:Builder.Extra prog Z1c:=by
 repeat' first|kernel_rfl|decide|intro _|constructor
open Go.RowKit Go.Lib in
theorem Z4h(s:ByteArray)(c:Nat)(w:World)(a:c<=9223372036854775807)(b:s.size * c<=140737488355328):
 Calls prog 124 #[.string s,.int .i64 c] w λe w'=>e=.returned (.string ⟨(Lib.repeatL s.data.toList c).toArray⟩)/\Below w.heap.size w w':=Any.strings_Repeat X5v Z0p s c w a b
def J0r:Go.Shelf.Ren:=⟨λ|110=>157|109=>118|n=>n,λ|31=>42|9=>9|4=>4|3=>3|0=>0|n=>n,λ|n=>n⟩
theorem J1t:Go.Proofs.Lays.n110 prog J0r:=by
 repeat' first|kernel_rfl|decide|intro _|constructor
open Go.Lib in
theorem Q7a(b off n c:Nat)(zs:List ByteArray)(x:ByteArray)(w:World)(a:n<=zs.length)(d:n<=9223372036854775807)(f:∀j,j<zs.length->w.cell? ⟨b,off+j,none⟩=some (.string (zs.getD j ByteArray.empty))):
 Calls prog 157 #[.slice (some ⟨b,off,none⟩) n c,.string x] w λe w'=>e=.returned (.bool (Lib.containsS (zs.take n) x))/\w'=w:=Any.slices_Contains_string J1t b off n c zs x w a d f
open Go.Lib in
theorem Q2c(a:Option Addr)(c:Nat)(x:ByteArray)(w:World):
 Calls prog 157 #[.slice a 0 c,.string x] w λe w'=>e=.returned (.bool false)/\w'=w:=Any.slices_Contains_string_empty J1t a c x w
end Go.Proofs
