/-
  The row's closed facts, each by itself (a).
-/
import Derived.Test.YtjoefbioobdinaaGreatDoorRows
import Derived.Test.YtjoefbioobdinaaGreatDoorwJt
import Derived.JoinedOf
namespace Go.Proofs.YtjoefbioobdinaaGreatDoor
open Go
set_option maxRecDepth 1000000
theorem j3:(Tryz.f4.params.all (Tryz.prog.readableRec ·))=true:=by kernel_rfl
theorem j4:(namedTie Tryz.prog Rows.consoleWritesRow.named Rows.consoleWritesSpec.vars)=true:=by kernel_rfl
theorem j5:(Rows.consoleWritesRow.stops==[])=true:=by kernel_rfl
theorem j6:(Tryz.prog.stops==[])=true:=by kernel_rfl
theorem j7:(Rows.consoleWritesRow.knobs==[])=true:=by kernel_rfl
theorem j8:(Tryz.prog.stopKnobs==[])=true:=by kernel_rfl
theorem j13:(Rows.consoleWritesRow.maps==(Tryz.f4.params.toList++Rows.consoleWritesSpec.plain.varTypes Tryz.prog).any (Tryz.prog.mapsRec ·))=true:=by kernel_rfl
theorem j14:(Rows.consoleWritesRow.ifaces==(Tryz.f4.params.toList++Rows.consoleWritesSpec.plain.varTypes Tryz.prog).any (Tryz.prog.ifacesRec ·))=true:=by kernel_rfl
theorem j15:(Rows.consoleWritesRow.mapsOut==Tryz.prog.mapsAmong Tryz.f4.resultTypes.toList)=true:=by kernel_rfl
theorem j16:(Rows.consoleWritesRow.loops==(Tryz.f4.params.toList++Rows.consoleWritesSpec.plain.varTypes Tryz.prog).any (Tryz.prog.loopsFrom ·))=true:=by kernel_rfl
theorem j17:(Rows.consoleWritesRow.wideKeys==(Tryz.f4.params.toList++Rows.consoleWritesSpec.plain.varTypes Tryz.prog++Tryz.f4.resultTypes.toList).any (Tryz.prog.wideKeysFrom ·))=true:=by kernel_rfl
theorem j18:(Rows.consoleWritesSpec.vars.all (Tryz.prog.varReadable ·))=true:=by kernel_rfl
theorem j19:(Tryz.f4.resultTypes.all (fun t=>Tryz.prog.readableRec t&&decide (t < Tryz.prog.types.size)))=true:=by kernel_rfl
theorem j20:(Rows.consoleWritesRow.ifacesOut==Tryz.f4.resultTypes.toList.any (Tryz.prog.ifacesRec ·))=true:=by kernel_rfl
theorem j21:(Rows.consoleWritesRow.loopsOut==Tryz.f4.resultTypes.toList.any (Tryz.prog.loopsFrom ·))=true:=by kernel_rfl
theorem j22:(Rows.consoleWritesRow.plainKeys==Tryz.prog.plainKeys)=true:=by
 rw [Dj.2.2]
 kernel_rfl
theorem j23:(Rows.consoleWritesRow.shortTexts.isNone)=true:=by kernel_rfl
theorem j26:(Rows.consoleWritesRow.lifted==Tryz.prog.liftsFinal)=true:=by kernel_rfl
theorem j27:(Tryz.prog.make==some Rows.consoleWritesRow.make)=true:=by kernel_rfl
theorem j28:(Rows.consoleWritesRow.kinds==(if Rows.consoleWritesRow.domain.isEmpty then [] else Tryz.f4.params.toList.map fun t=>match Tryz.prog.underlying t with | some (.int k)=>some k | _=>none))=true:=by kernel_rfl
theorem j30:(Rows.consoleWritesRow.veiled==(Tryz.f4.params.toList++Rows.consoleWritesSpec.plain.varTypes Tryz.prog++Tryz.f4.resultTypes.toList).any (Tryz.prog.veiledRec ·))=true:=by kernel_rfl
theorem j31:(Rows.consoleWritesRow.veiledFits Tryz.prog Tryz.f4.params.toList (Tryz.f4.params.toList++Rows.consoleWritesSpec.plain.varTypes Tryz.prog++Tryz.f4.resultTypes.toList))=true:=by kernel_rfl
end Go.Proofs.YtjoefbioobdinaaGreatDoor
