/- The closed facts about the program that the row PartsPlumb and its card ask, each by itself; no condition. -/
import Derived.Test.YtkfcehagblhjaaaGreatDoorRows
import Derived.SevenTiedAt
import Derived.Shelf.Vars
import Derived.ProofKit
set_option linter.unusedVariables false
set_option linter.unusedSimpArgs false
set_option linter.defProp false
set_option maxRecDepth 100000
namespace Go.Proofs.YtkfcehagblhjaaaGreatDoor
open Go.RowKit
theorem jf0:(Rows.partsPlumbRow.wf (OpenSpec.ofChange Rows.partsPlumbSpec))=true:=by kernel_rfl
theorem jf1:(laidOutB Tryz.prog)=true:=by kernel_rfl
theorem jf2:(mapsRowed Tryz.prog)=true:=by kernel_rfl
theorem jf3:(Tryz.f3.params.all (Tryz.prog.readableRec ·))=true:=by kernel_rfl
theorem jf4:(namedTie Tryz.prog Rows.partsPlumbRow.named Rows.partsPlumbSpec.vars)=true:=by kernel_rfl
theorem jf5:((Rows.partsPlumbRow.stops==[]))=true:=by kernel_rfl
theorem jf6:((Tryz.prog.stops==[]))=true:=by kernel_rfl
theorem jf7:((Rows.partsPlumbRow.knobs==[]))=true:=by kernel_rfl
theorem jf8:((Tryz.prog.stopKnobs==[]))=true:=by kernel_rfl
theorem jf9:((Rows.partsPlumbRow.inPlace==Tryz.prog.inPlace 3))=true:=by kernel_rfl
theorem jf10:((Rows.partsPlumbRow.unfollowed==Tryz.prog.unfollowed 3))=true:=by kernel_rfl
theorem jf11:((Rows.partsPlumbRow.recurses==Tryz.prog.recurses 3))=true:=by kernel_rfl
theorem jf12:((Rows.partsPlumbRow.named==Tryz.prog.varsNamed 3))=true:=by kernel_rfl
theorem jf13:((Rows.partsPlumbRow.maps==(Tryz.f3.params.toList++Rows.partsPlumbSpec.plain.varTypes Tryz.prog).any (Tryz.prog.mapsRec ·)))=true:=by kernel_rfl
theorem jf14:((Rows.partsPlumbRow.ifaces==(Tryz.f3.params.toList++Rows.partsPlumbSpec.plain.varTypes Tryz.prog).any (Tryz.prog.ifacesRec ·)))=true:=by kernel_rfl
theorem jf15:((Rows.partsPlumbRow.mapsOut==Tryz.prog.mapsAmong Tryz.f3.resultTypes.toList))=true:=by kernel_rfl
theorem jf16:((Rows.partsPlumbRow.loops==(Tryz.f3.params.toList++Rows.partsPlumbSpec.plain.varTypes Tryz.prog).any (Tryz.prog.loopsFrom ·)))=true:=by kernel_rfl
theorem jf17:((Rows.partsPlumbRow.wideKeys==(Tryz.f3.params.toList++Rows.partsPlumbSpec.plain.varTypes Tryz.prog++Tryz.f3.resultTypes.toList).any (Tryz.prog.wideKeysFrom ·)))=true:=by kernel_rfl
theorem jf18:(Rows.partsPlumbSpec.vars.all (Tryz.prog.varReadable ·))=true:=by kernel_rfl
theorem jf19:(Tryz.f3.resultTypes.all (fun t=>Tryz.prog.readableRec t&&decide (t<Tryz.prog.types.size)))=true:=by kernel_rfl
theorem jf20:((Rows.partsPlumbRow.ifacesOut==Tryz.f3.resultTypes.toList.any (Tryz.prog.ifacesRec ·)))=true:=by kernel_rfl
theorem jf21:((Rows.partsPlumbRow.loopsOut==Tryz.f3.resultTypes.toList.any (Tryz.prog.loopsFrom ·)))=true:=by kernel_rfl
theorem jf22:((Rows.partsPlumbRow.plainKeys==Tryz.prog.plainKeys))=true:=by kernel_rfl
theorem jf23:(Rows.partsPlumbRow.shortTexts.isNone)=true:=by kernel_rfl
theorem jf24:(Tryz.prog.stopsHeard)=true:=by kernel_rfl
theorem jf25:(Tryz.prog.mayEnter)=true:=by kernel_rfl
theorem jf26:((Rows.partsPlumbRow.lifted==Tryz.prog.liftsFinal))=true:=by kernel_rfl
theorem jf27:((Tryz.prog.make==some Rows.partsPlumbRow.make))=true:=by kernel_rfl
theorem jf29:((Rows.partsPlumbRow.pinned==Rows.partsPlumbRow.pinnedBy))=true:=by kernel_rfl
theorem jf30:((Rows.partsPlumbRow.veiled==(Tryz.f3.params.toList++Rows.partsPlumbSpec.plain.varTypes Tryz.prog++Tryz.f3.resultTypes.toList).any (Tryz.prog.veiledRec ·)))=true:=by kernel_rfl
theorem jf31:(Rows.partsPlumbRow.veiledFits Tryz.prog Tryz.f3.params.toList (Tryz.f3.params.toList++Rows.partsPlumbSpec.plain.varTypes Tryz.prog++Tryz.f3.resultTypes.toList))=true:=by kernel_rfl
theorem closed:joinedFacts Tryz.pinned.checked.prog 3 Tryz.f3 Rows.partsPlumbSpec Rows.partsPlumbRow=true:=by
 show joinedFacts Tryz.prog 3 Tryz.f3 Rows.partsPlumbSpec Rows.partsPlumbRow=true
 unfold joinedFacts
 rw[jf0,jf1,jf2,jf3,jf4,jf5,jf6,jf7,jf8,jf9,jf10,jf11,jf12,jf13,jf14,jf15,jf16,jf17,jf18,jf19,jf20,jf21,jf22,jf23,jf24,jf25,jf26,jf27,jf29,jf30,jf31]
 kernel_rfl
theorem cf_named:Tryz.pinned.checked.prog.funcNamed Rows.partsPlumbRow.func=some 3:=by kernel_rfl
theorem cf_wf:Rows.partsPlumbRow.wfByText (OpenSpec.ofChange Rows.partsPlumbSpec)=true:=by kernel_rfl
theorem cf_main:Tryz.pinned.checked.prog.mainIs=some (true,"8f8059c19b267148b68aa929f6b75952f5508ecaa00fd655c2e3044e2a77a9cb".toList):=by kernel_rfl
theorem cf_looks:true=Tryz.pinned.checked.prog.looks []:=by kernel_rfl
theorem cf_want:Tryz.prog.wantsStandIn 24=false:=by kernel_rfl
theorem cf_goes:false=Rows.partsPlumbRow.goesBy Tryz.pinned.checked.prog:=by kernel_rfl
end Go.Proofs.YtkfcehagblhjaaaGreatDoor
