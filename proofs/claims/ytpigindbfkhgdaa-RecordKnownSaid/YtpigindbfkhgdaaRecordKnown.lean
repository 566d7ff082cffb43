/-
  RecordKnown: the law answers true. No condition.
-/
import Derived.Test.YtpigindbfkhgdaaAmTk
import Derived.Test.YtpigindbfkhgdaaRows
namespace Go.Proofs.Ytpigindbfkhgdaa.recordKnown
open Go.RowKit Am Go.WideShapes
set_option maxRecDepth 100000

theorem run_c : C Try.prog 7 [] [] (fun r o => r = .d (.bool true) ∧ o = []) :=
  of_isTrue (lay_ok tk tk_ok brf 6000 1200 12) (by kernel_rfl : isTrue (layer Try.prog (konOf tk) brf cok 6000 1200 12 7 [] []) = true)

theorem pars : Try.f7.params.toList = [] := by kernel_rfl
theorem func : Try.prog.funcs[7]? = some Try.f7 := by kernel_rfl

theorem lifted (os : Os) (started : os.Started) (H : Type) (enc : TypeId × Value → H) :
    ReturnsInHanded {} Try.checked os 7 .any (Rows.recordKnownSpec.pre6 enc Try.prog Try.f7 Rows.recordKnownRow.domain false) (Rows.recordKnownSpec.post enc Try.prog Try.f7 false true false false) := by
  refine returnsInHanded_of_change (C := Try.checked) own started (by kernel_rfl) func
    (ChangeSpec.witness6 (enc := enc) (C := Try.checked) false ⟨#[], #[], []⟩ 8 (by kernel_rfl) (by kernel_rfl) (by kernel_rfl) (by kernel_rfl)) ?_
  intro W base args ds gs before hval hW _ _
  refine law_post (P := Try.prog) (tb := 4) 8 laid rfl (by kernel_rfl) (by kernel_rfl) (by rw [pars]; intro t ht; simp at ht) (by rw [pars]; intro t ht; simp at ht)
    (fun ds hd => ?_) (fun xss hx => ?_) W base args ds gs before hval hW
  · match ds, hd with
    | [], _ => rfl
  · rw [pars] at hx ⊢
    match xss, hx with
    | [], _ => exact run_c

theorem holds : Rows.RecordKnownSaid :=
  OpenClaim.holds_of_wide 7 Try.f7 rfl rfl rfl rfl rfl rfl rfl ⟨rfl, rfl, rfl, rfl, rfl⟩ rfl rfl rfl rfl rfl (by kernel_rfl) func (by kernel_rfl)
    (of_decide_eq_true (by kernel_rfl)) (by unfold Func.isWrapper; first | (rw [if_pos (by decide +kernel)]; kernel_rfl) | (rw [if_neg (by decide +kernel)]; exact ⟨rfl, rfl⟩))
    (fun os started H enc _ => lifted os started H enc)
end Go.Proofs.Ytpigindbfkhgdaa.recordKnown
