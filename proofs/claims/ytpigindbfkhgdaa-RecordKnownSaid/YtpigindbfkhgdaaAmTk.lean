/-
  The record law's closed runs: the table with strings.Repeat.
-/
import Derived.Test.YtpigindbfkhgdaaAmR
import Derived.Test.YtpigindbfkhgdaaAmRp
namespace Go.Proofs.Ytpigindbfkhgdaa
open Go.RowKit Plain Am
set_option maxRecDepth 100000
noncomputable def tk : List (Nat × Ent) := (20, e2 repE) :: tab0
theorem tk_ok : EntsOk Try.prog tk := .cons rep_ent tab0_ok
def brf : Nat → Bool := fun _ => false
theorem lay_ok (l : List (Nat × Ent)) (h : EntsOk Try.prog l) (b : Nat → Bool) (n k d : Nat) : KSound Try.prog (layer Try.prog (konOf l) b cok n k d) := layer_ok mixed (konOf_ok h) (fun _ h => h) d
end Go.Proofs.Ytpigindbfkhgdaa
