/-
  The law NetKnown, run.
-/
import Derived.Test.YtchmeldlpoimnabAmV5
import Derived.Lib.Repeat
namespace Go.Proofs.Ytchmeldlpoimnab
open Go.RowKit Am IntWalk
set_option maxRecDepth 100000
set_option linter.unusedVariables false

theorem entsApp {l l2 : List (Nat × Ent)} (h : EntsOk Try.prog l) (h2 : EntsOk Try.prog l2) : EntsOk Try.prog (l ++ l2) := by
  induction h with
  | nil => exact h2
  | cons h1 _ ih => exact .cons h1 ih
noncomputable def cfN : Cfg := { E := Env.of Try.prog, K := layer Try.prog (konOf (tv5 ++ tb)) brf cok 6000 1200 6, byref := brf, callOk := cok }
theorem cfN_ok : Ok Try.prog cfN := ⟨⟨rfl, lay_ok _ (entsApp tv5_ok tb_ok) brf _ _ _, fun _ h => h⟩, mixed⟩
theorem nknown_c : C Try.prog 8 [] [] (fun r o => r = .d (.bool true) ∧ o = []) := by
  obtain ⟨big, hb⟩ : ∃ x, Lib.repeatL [108] 262145 = x := ⟨_, rfl⟩
  have hlen : big.length = 262145 := by rw [← hb, Lib.repeatL_length]; rfl
  have hs : sendN 0 0 big [] 2 = (0, 3, [], 2) := by
    unfold sendN
    rw [if_neg (by decide), if_pos (by rw [hlen]; decide)]
  refine C_of_run (fn := Try.f8) (body := bodyOf Try.f8) true (by kernel_rfl) (by kernel_rfl) (by kernel_rfl) ?_
  exact WK.fin cfN_ok 3000 0 [(101, .d (.str big)), (102, .tup [.d (.int .i64 0), .d (.int .i64 3)])] [true, true, true, true, true, true, true, true, true, true, true, true, true, true, true, true, true, true, true, true, true, true, true] [(.d (.str (Lib.repeatL [108] 262145)), .d (.str big)), (.tup [.d (.int .i64 (sendN 0 0 big [] 2).1), .d (.int .i64 (sendN 0 0 big [] 2).2.1)], .tup [.d (.int .i64 0), .d (.int .i64 3)])] rfl
    (by kernel_rfl : runEnd cfN true _ 3000 0 _ _ (ini Try.f8.ntmps [] []) = some (.d (.bool true), [], _, _)) ⟨rfl, rfl, rfl, rfl, rfl, rfl, rfl, rfl, rfl, rfl, rfl, rfl, rfl, rfl, rfl, rfl, rfl, rfl, rfl, rfl, rfl, rfl, rfl, trivial⟩ ⟨.of_eq (by rw [hb]), .of_eq (by rw [hs]), trivial⟩ ⟨rfl, rfl⟩
end Go.Proofs.Ytchmeldlpoimnab
