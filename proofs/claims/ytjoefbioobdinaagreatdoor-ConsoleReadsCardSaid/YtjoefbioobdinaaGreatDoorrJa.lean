/-
  The row's closed facts, each by itself (a).
-/
import Derived.Test.YtjoefbioobdinaaGreatDoorRows
import Derived.Test.YtjoefbioobdinaaGreatDoorrJt
import Derived.JoinedOf
namespace Go.Proofs.YtjoefbioobdinaaGreatDoor
open Go
set_option maxRecDepth 1000000
theorem j3:(Tryz.f3.params.all (Tryz.prog.readableRec ·))=true:=by kernel_rfl
theorem j4:(namedTie Tryz.prog Rows.consoleReadsRow.named Rows.consoleReadsSpec.vars)=true:=by kernel_rfl
theorem j5:(Rows.consoleReadsRow.stops==[])=true:=by kernel_rfl
theorem j6:(Tryz.prog.stops==[])=true:=by kernel_rfl
theorem j7:(Rows.consoleReadsRow.knobs==[])=true:=by kernel_rfl
theorem j8:(Tryz.prog.stopKnobs==[])=true:=by kernel_rfl
theorem j13:(Rows.consoleReadsRow.maps==(Tryz.f3.params.toList++Rows.consoleReadsSpec.plain.varTypes Tryz.prog).any (Tryz.prog.mapsRec ·))=true:=by kernel_rfl
theorem j14:(Rows.consoleReadsRow.ifaces==(Tryz.f3.params.toList++Rows.consoleReadsSpec.plain.varTypes Tryz.prog).any (Tryz.prog.ifacesRec ·))=true:=by kernel_rfl
theorem j15:(Rows.consoleReadsRow.mapsOut==Tryz.prog.mapsAmong Tryz.f3.resultTypes.toList)=true:=by kernel_rfl
theorem j16:(Rows.consoleReadsRow.loops==(Tryz.f3.params.toList++Rows.consoleReadsSpec.plain.varTypes Tryz.prog).any (Tryz.prog.loopsFrom ·))=true:=by kernel_rfl
theorem j17:(Rows.consoleReadsRow.wideKeys==(Tryz.f3.params.toList++Rows.consoleReadsSpec.plain.varTypes Tryz.prog++Tryz.f3.resultTypes.toList).any (Tryz.prog.wideKeysFrom ·))=true:=by kernel_rfl
theorem j18:(Rows.consoleReadsSpec.vars.all (Tryz.prog.varReadable ·))=true:=by kernel_rfl
theorem j19:(Tryz.f3.resultTypes.all (fun t=>Tryz.prog.readableRec t&&decide (t < Tryz.prog.types.size)))=true:=by kernel_rfl
theorem j20:(Rows.consoleReadsRow.ifacesOut==Tryz.f3.resultTypes.toList.any (Tryz.prog.ifacesRec ·))=true:=by kernel_rfl
theorem j21:(Rows.consoleReadsRow.loopsOut==Tryz.f3.resultTypes.toList.any (Tryz.prog.loopsFrom ·))=true:=by kernel_rfl
theorem j22:(Rows.consoleReadsRow.plainKeys==Tryz.prog.plainKeys)=true:=by
 rw [DN.2.2]
 kernel_rfl
theorem j23:(Rows.consoleReadsRow.shortTexts.isNone)=true:=by kernel_rfl
theorem j26:(Rows.consoleReadsRow.lifted==Tryz.prog.liftsFinal)=true:=by kernel_rfl
theorem j27:(Tryz.prog.make==some Rows.consoleReadsRow.make)=true:=by kernel_rfl
theorem j28:(Rows.consoleReadsRow.kinds==(if Rows.consoleReadsRow.domain.isEmpty then [] else Tryz.f3.params.toList.map fun t=>match Tryz.prog.underlying t with | some (.int k)=>some k | _=>none))=true:=by kernel_rfl
theorem j30:(Rows.consoleReadsRow.veiled==(Tryz.f3.params.toList++Rows.consoleReadsSpec.plain.varTypes Tryz.prog++Tryz.f3.resultTypes.toList).any (Tryz.prog.veiledRec ·))=true:=by kernel_rfl
theorem j31:(Rows.consoleReadsRow.veiledFits Tryz.prog Tryz.f3.params.toList (Tryz.f3.params.toList++Rows.consoleReadsSpec.plain.varTypes Tryz.prog++Tryz.f3.resultTypes.toList))=true:=by kernel_rfl
end Go.Proofs.YtjoefbioobdinaaGreatDoor
