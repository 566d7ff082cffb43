/-
  A heap in which a call may start: no place is met twice.
-/
import Derived.Test.YtjoefbioobdinaaGreatDoorwn
import Derived.Test.YtjoefbioobdinaaGreatDoorwS1
namespace Go.Proofs.YtjoefbioobdinaaGreatDoor
open Go Am
set_option maxRecDepth 1000000
theorem s9:(DataW.laidRun Tryz.prog (wP default) 8 (L9.map (·.1))).map (fun x=>y7 (x.2.map Vw) 0)=some true:=by kernel_rfl
end Go.Proofs.YtjoefbioobdinaaGreatDoor
