/-
  The row's closed facts, each by itself (a).
-/
import Derived.Test.YtjoefbioobdinaaGreatDoorRows
import Derived.Test.YtjoefbioobdinaaGreatDoorkJt
import Derived.JoinedOf
namespace Go.Proofs.YtjoefbioobdinaaGreatDoor
open Go
set_option maxRecDepth 1000000
theorem j3:(Tryz.f5.params.all (Tryz.prog.readableRec ·))=true:=by kernel_rfl
theorem j4:(namedTie Tryz.prog Rows.consoleBackRow.named Rows.consoleBackSpec.vars)=true:=by kernel_rfl
theorem j5:(Rows.consoleBackRow.stops==[])=true:=by kernel_rfl
theorem j6:(Tryz.prog.stops==[])=true:=by kernel_rfl
theorem j7:(Rows.consoleBackRow.knobs==[])=true:=by kernel_rfl
theorem j8:(Tryz.prog.stopKnobs==[])=true:=by kernel_rfl
theorem j13:(Rows.consoleBackRow.maps==(Tryz.f5.params.toList++Rows.consoleBackSpec.plain.varTypes Tryz.prog).any (Tryz.prog.mapsRec ·))=true:=by kernel_rfl
theorem j14:(Rows.consoleBackRow.ifaces==(Tryz.f5.params.toList++Rows.consoleBackSpec.plain.varTypes Tryz.prog).any (Tryz.prog.ifacesRec ·))=true:=by kernel_rfl
theorem j15:(Rows.consoleBackRow.mapsOut==Tryz.prog.mapsAmong Tryz.f5.resultTypes.toList)=true:=by kernel_rfl
theorem j16:(Rows.consoleBackRow.loops==(Tryz.f5.params.toList++Rows.consoleBackSpec.plain.varTypes Tryz.prog).any (Tryz.prog.loopsFrom ·))=true:=by kernel_rfl
theorem j17:(Rows.consoleBackRow.wideKeys==(Tryz.f5.params.toList++Rows.consoleBackSpec.plain.varTypes Tryz.prog++Tryz.f5.resultTypes.toList).any (Tryz.prog.wideKeysFrom ·))=true:=by kernel_rfl
theorem j18:(Rows.consoleBackSpec.vars.all (Tryz.prog.varReadable ·))=true:=by kernel_rfl
theorem j19:(Tryz.f5.resultTypes.all (fun t=>Tryz.prog.readableRec t&&decide (t < Tryz.prog.types.size)))=true:=by kernel_rfl
theorem j20:(Rows.consoleBackRow.ifacesOut==Tryz.f5.resultTypes.toList.any (Tryz.prog.ifacesRec ·))=true:=by kernel_rfl
theorem j21:(Rows.consoleBackRow.loopsOut==Tryz.f5.resultTypes.toList.any (Tryz.prog.loopsFrom ·))=true:=by kernel_rfl
theorem j22:(Rows.consoleBackRow.plainKeys==Tryz.prog.plainKeys)=true:=by
 rw [CB.2.2]
 kernel_rfl
theorem j23:(Rows.consoleBackRow.shortTexts.isNone)=true:=by kernel_rfl
theorem j26:(Rows.consoleBackRow.lifted==Tryz.prog.liftsFinal)=true:=by kernel_rfl
theorem j27:(Tryz.prog.make==some Rows.consoleBackRow.make)=true:=by kernel_rfl
theorem j28:(Rows.consoleBackRow.kinds==(if Rows.consoleBackRow.domain.isEmpty then [] else Tryz.f5.params.toList.map fun t=>match Tryz.prog.underlying t with | some (.int k)=>some k | _=>none))=true:=by kernel_rfl
theorem j30:(Rows.consoleBackRow.veiled==(Tryz.f5.params.toList++Rows.consoleBackSpec.plain.varTypes Tryz.prog++Tryz.f5.resultTypes.toList).any (Tryz.prog.veiledRec ·))=true:=by kernel_rfl
theorem j31:(Rows.consoleBackRow.veiledFits Tryz.prog Tryz.f5.params.toList (Tryz.f5.params.toList++Rows.consoleBackSpec.plain.varTypes Tryz.prog++Tryz.f5.resultTypes.toList))=true:=by kernel_rfl
end Go.Proofs.YtjoefbioobdinaaGreatDoor
