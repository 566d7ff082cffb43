/-
  A heap in which a call may start: no place is met twice.
-/
import Derived.Test.YticmnccpdpdaiaaGreatDoorAmE
import Derived.Test.YticmnccpdpdaiaaGreatDoorS1c

namespace Go.Proofs.YticmnccpdpdaiaaGreatDoor
open Go Am
set_option maxRecDepth 1000000
theorem s9 : (DataW.laidRun Tryz.prog (wP default) 8 (L9.map (·.1))).map (fun x => nodupM (x.2.map keyM) 0) = some true := by kernel_rfl
end Go.Proofs.YticmnccpdpdaiaaGreatDoor
