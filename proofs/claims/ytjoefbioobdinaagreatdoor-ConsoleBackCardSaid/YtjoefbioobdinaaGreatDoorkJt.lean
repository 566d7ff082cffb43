/-
  The closed facts that run over the whole table of types, out of what the loaded program's check has paid.
-/
import Derived.Test.YtjoefbioobdinaaGreatDoorRows
import Derived.ClosedOfChecked
namespace Go.Proofs.YtjoefbioobdinaaGreatDoor
open Go
set_option maxRecDepth 1000000
theorem CB:laidOutB Tryz.prog=true∧mapsRowed Tryz.prog=true∧Tryz.prog.plainKeys=true:=
 ClosedOfChecked.closed_of_checked Tryz.checked (by kernel_rfl:Tryz.prog.types=Tryz.src.types) (by kernel_rfl:(Tryz.prog.globals.all (fun g=>decide (g.type < Tryz.prog.types.size))&&Tryz.prog.funcs.all (fun f=>f.params.all fun t=>decide (t < Tryz.prog.types.size)))=true) (by kernel_rfl:ClosedOfChecked.keysListB Tryz.prog=true)
end Go.Proofs.YtjoefbioobdinaaGreatDoor
