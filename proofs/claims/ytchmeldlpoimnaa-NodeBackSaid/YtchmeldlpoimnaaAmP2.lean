/-
  Taking texts: the run of (*rest).text.
-/
import Derived.Test.YtchmeldlpoimnaaAmP1
namespace Go.Proofs.Ytchmeldlpoimnaa
open Go.RowKit Am IntWalk
set_option maxRecDepth 100000
set_option linter.unusedVariables false

def qBox (q : Qr) : PObj := .box 106 [.d (.str q.1), .d (.bool q.2)]
def txtE : Ent := fun a o => match a, o with
  | [.ptr 0 0, .d (.int .i64 n)], [.box 106 [.d (.str s), .d (.bool b)]] => some (.d (.str (txt n (s, b)).1), [.box 106 [.d (.str (txt n (s, b)).2.1), .d (.bool (txt n (s, b)).2.2)]], [decide (0 ≤ n)])
  | _, _ => none
noncomputable def tpA0 : List (Nat × Ent) := (72, txtE) :: trE
end Go.Proofs.Ytchmeldlpoimnaa
