/-
  A heap in which a call may start: no place is met twice.
-/
import Derived.Test.YtjoefbioobdinaaGreatDoorkl
import Derived.Test.YtjoefbioobdinaaGreatDoorkS1
namespace Go.Proofs.YtjoefbioobdinaaGreatDoor
open Go Am
set_option maxRecDepth 1000000
theorem s9:(DataW.laidRun Tryz.prog (wP default) 8 (L9.map (·.1))).map (fun x=>yJ (x.2.map Vd) 0)=some true:=by kernel_rfl
end Go.Proofs.YtjoefbioobdinaaGreatDoor
