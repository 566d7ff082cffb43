/-
  The changes' laws ask first that a small thing goes right: a closed run.
-/
import Derived.Test.YtljfolepmkcjlaaCTb
namespace Go.Proofs.Ytljfolepmkcjlaa
open Go.RowKit Am
set_option maxRecDepth 100000

theorem works22_c : C Try.prog 20 [] [] (fun r o => r = .d (.bool true) ∧ o = []) :=
  of_isTrue (lay_ok tb tb_ok brf 6000 1200 12) (by kernel_rfl : isTrue (layer Try.prog (konOf tb) brf cok 6000 1200 12 20 [] []) = true)
end Go.Proofs.Ytljfolepmkcjlaa
