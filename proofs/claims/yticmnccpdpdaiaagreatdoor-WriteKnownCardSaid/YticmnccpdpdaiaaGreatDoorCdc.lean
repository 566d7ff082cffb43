/-
  WriteKnown: the document's examples for the statements that write: the law answers true, whatever the variables' start, as the program's own text lays them. No condition but the row's own cells (laid, tied to the program's text).
-/
import Derived.Test.YticmnccpdpdaiaaGreatDoorLwc
import Derived.Test.YticmnccpdpdaiaaGreatDoorT7c
import Derived.Test.YticmnccpdpdaiaaGreatDoorCac
import Derived.Test.YticmnccpdpdaiaaGreatDoorCbc
import Derived.Test.YticmnccpdpdaiaaGreatDoorCcc
import Derived.SevenTiedAt

namespace Go.Proofs.YticmnccpdpdaiaaGreatDoor
open Go
set_option maxRecDepth 1000000
theorem writeknown_holds : Rows.WriteKnownCardSaid :=
  Claim7.holds_tied_plain_at .later [] [.data, .data, .data, .pinned, .data, .data, .listed, .sentinel, .sentinel] true (true, "782a50158869c17d264cc572c7757e2c24453ad016267f7c3efca7b012e5f3c3") true
    row_holds (fun _ h => by cases h) card_a (fun _ h => by cases h) row_tieL rfl ⟨rfl, rfl⟩ card_b rfl
    (fun f fn hf hfn => by
      obtain rfl : f = 3 := Option.some.inj ((show Tryz.prog.funcNamed "counterfoil/counterfoillaw20.WriteKnown" = some 3 by kernel_rfl).symm.trans hf) |>.symm
      obtain rfl : fn = Tryz.f3 := (Option.some.inj (Tryz.func3.symm.trans hfn)).symm
      exact ⟨card_c, fun j t ht => by
        have hp : Tryz.f3.params = #[] := by kernel_rfl
        rw [hp] at ht
        simp at ht⟩)
    card_d
end Go.Proofs.YticmnccpdpdaiaaGreatDoor
