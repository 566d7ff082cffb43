/-
  EngineKnown: the document's examples for the statements that write: the law answers true, whatever the variables' start, as the program's own text lays them. No condition but the row's own cells (laid, tied to the program's text).
-/
import Derived.Test.YtadndmmhpkmjeaaGreatDoorLwc
import Derived.Test.YtadndmmhpkmjeaaGreatDoorT7c
import Derived.Test.YtadndmmhpkmjeaaGreatDoorCq
import Derived.SevenTiedAt

namespace Go.Proofs.YtadndmmhpkmjeaaGreatDoor
open Go
set_option maxRecDepth 1000000
theorem engineknown_holds : Rows.EngineKnownCardSaid :=
  Claim7.holds_tied_plain_at .later [] [.data, .listed, .sentinel, .sentinel, .data, .data, .data, .pinned, .data] true (true, "cc363d8f4d9210f2b0ce759bcd82c83feefed1b9a8d1d2ec20764ee1095c1800") true
    row_holds (fun _ h => by cases h) card_a (fun _ h => by cases h) row_tieL rfl ⟨rfl, rfl⟩ card_b rfl
    (fun f fn hf hfn => by
      obtain rfl : f = 3 := Option.some.inj ((show Tryz.prog.funcNamed "counterfoil/counterfoillaw21.EngineKnown" = some 3 by kernel_rfl).symm.trans hf) |>.symm
      obtain rfl : fn = Tryz.f3 := (Option.some.inj (Tryz.func3.symm.trans hfn)).symm
      exact ⟨card_c, fun j t ht => by
        have hp : Tryz.f3.params = #[] := by kernel_rfl
        rw [hp] at ht
        simp at ht⟩)
    card_d
end Go.Proofs.YtadndmmhpkmjeaaGreatDoor
