/-
  A heap in which a call may start: all that is listed lies in plain memory.
-/
import Derived.Test.YtjoefbioobdinaaGreatDoorkl
import Derived.Test.YtjoefbioobdinaaGreatDoorkS1
namespace Go.Proofs.YtjoefbioobdinaaGreatDoor
open Go Am
set_option maxRecDepth 1000000
theorem s10:(DataW.laidRun Tryz.prog (wP default) 8 (L9.map (·.1))).map (fun x=>laidRowsB Tryz.prog (wP default) x.2)=some true:=by kernel_rfl
end Go.Proofs.YtjoefbioobdinaaGreatDoor
