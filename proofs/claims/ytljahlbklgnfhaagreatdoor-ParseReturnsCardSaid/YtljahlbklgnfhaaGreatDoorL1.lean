import Derived.Shelf.Lay
import Derived.Shelf.Strings.BuilderK
import Derived.Test.YtljahlbklgnfhaaGreatDoorProg
set_option linter.unusedVariables false
set_option linter.defProp false
namespace Go.Proofs
open Go.RowKit Go.Shelf
def Z0z:Go.Shelf.Ren:=⟨λ|166=>123|240=>163|276=>196|n=>n,λ|0=>0|3=>3|4=>4|5=>5|9=>9|20=>20|37=>58|70=>57|72=>60|75=>133|80=>64|164=>164|n=>n,λ|n=>n⟩
theorem X5p:Go.Proofs.Lays.n166 Tryz.prog Z0z:=by
 repeat' first|kernel_rfl|decide|intro _|constructor
theorem Z0n:Builder.Extra Tryz.prog Z0z:=by
 repeat' first|kernel_rfl|decide|intro _|constructor
def Z0y:Go.Shelf.Ren:=⟨λ|167=>121|240=>163|276=>196|n=>n,λ|0=>0|3=>3|4=>4|5=>5|9=>9|20=>20|37=>58|70=>57|72=>60|75=>133|80=>64|164=>164|n=>n,λ|n=>n⟩
theorem X5o:Go.Proofs.Lays.n167 Tryz.prog Z0y:=by
 repeat' first|kernel_rfl|decide|intro _|constructor
theorem Z0m:Builder.Extra Tryz.prog Z0y:=by
 repeat' first|kernel_rfl|decide|intro _|constructor
end Go.Proofs
