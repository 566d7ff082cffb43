/-
  ApplyKnown: the document's examples for the statements that write: the law answers true, whatever the variables' start, as the program's own text lays them. No condition but the row's own cells (laid, tied to the program's text).
-/
import Derived.Test.YtiiookmnofhlmaaGreatDoorLwc
import Derived.Test.YtiiookmnofhlmaaGreatDoorT7c
import Derived.Test.YtiiookmnofhlmaaGreatDoorCq
import Derived.SevenTiedAt

namespace Go.Proofs.YtiiookmnofhlmaaGreatDoor
open Go
set_option maxRecDepth 1000000
theorem applyknown_holds : Rows.ApplyKnownCardSaid :=
  Claim7.holds_tied_plain_at .later [] [.data, .data, .data, .pinned, .data, .data, .listed, .sentinel, .sentinel] true (true, "95aba7c9e4d64257e04e0f52e9f9b8ed9c433d29a22810974a4e6edbea888896") true
    row_holds (fun _ h => by cases h) card_a (fun _ h => by cases h) row_tieL rfl ⟨rfl, rfl⟩ card_b rfl
    (fun f fn hf hfn => by
      obtain rfl : f = 3 := Option.some.inj ((show Tryz.prog.funcNamed "counterfoil/counterfoillaw23.ApplyKnown" = some 3 by kernel_rfl).symm.trans hf) |>.symm
      obtain rfl : fn = Tryz.f3 := (Option.some.inj (Tryz.func3.symm.trans hfn)).symm
      exact ⟨card_c, fun j t ht => by
        have hp : Tryz.f3.params = #[] := by kernel_rfl
        rw [hp] at ht
        simp at ht⟩)
    card_d
end Go.Proofs.YtiiookmnofhlmaaGreatDoor
