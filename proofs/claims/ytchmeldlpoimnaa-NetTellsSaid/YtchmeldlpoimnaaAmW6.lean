/-
  The law NetTells, run.
-/
import Derived.Test.YtchmeldlpoimnaaAmW4
namespace Go.Proofs.Ytchmeldlpoimnaa
open Go.RowKit Am IntWalk
set_option maxRecDepth 100000
set_option linter.unusedVariables false
set_option linter.unusedSimpArgs false

theorem tells_c (ops : List Opx) (hn : ops.length ≤ 9223372036854775807) (hy : ∀ x ∈ ops, 0 ≤ x.y ∧ x.y < 256) : C Try.prog 11 [.d (.lst 5 (ops.map oD) false)] [] (fun r o => r = .d (.bool true) ∧ o = []) := by
  have ok := cfT_ok tw0_ok
  refine C_of_run (fn := Try.f11) (body := tlC) true (by kernel_rfl) (by kernel_rfl) (by kernel_rfl) ?_
  have hml : (ops.map oD).length = ops.length := List.length_map ..
  rcases Bool.eq_false_or_eq_true (heavyB (List.map toO (List.map oD ops)) : Bool) with h21 | h21
  · skip
    exact WK.fin ok 1000 0 [(21, RV.d (DV.bool true))] [(List.map oD ops).all isO, decide ((List.map oD ops).length ≤ 9223372036854775807)] [(RV.d (DV.bool (heavyB (List.map toO (List.map oD ops)))), RV.d (DV.bool true))] rfl (by kernel_rfl : runEnd (cfT tw0) true _ 1000 0 _ _ (ini Try.f11.ntmps [.d (.lst 5 (ops.map oD) false)] []) = some (RV.d (DV.bool true), [], _, _)) (by refine ⟨?_, ?_, trivial⟩ <;> (first | exact all_isO ops | (refine decide_eq_true ?_; rw [hml]; exact hn))) ⟨le_bool h21, trivial⟩ ⟨rfl, rfl⟩
  · skip
    refine WK.segA ok 1000 0 [(21, RV.d (DV.bool false))] [] [3, 4, 5, 24, 25, 26] [(List.map oD ops).all isO, decide ((List.map oD ops).length ≤ 9223372036854775807)] [(RV.d (DV.bool (heavyB (List.map toO (List.map oD ops)))), RV.d (DV.bool false))] rfl (by kernel_rfl : runSegA (cfT tw0) 1000 0 _ _ _ _ (ini Try.f11.ntmps [.d (.lst 5 (ops.map oD) false)] []) = some (stackAt tlC 0, tlG ops ([]) ((0)) ([]) (0) (0), _, _)) (by refine ⟨?_, ?_, trivial⟩ <;> (first | exact all_isO ops | (refine decide_eq_true ?_; rw [hml]; exact hn))) ⟨le_bool h21, trivial⟩ ?_
    rw [toO_map] at h21
    obtain ⟨h1, h2⟩ := heavy_not h21
    exact tl_loop ops ⟨h1, h2, hy⟩
end Go.Proofs.Ytchmeldlpoimnaa
