/-
  RecordPuts: at every row of values the law answers true, and the row reads afterwards as it read before. No condition.
-/
import Derived.Test.YtpigindbfkhgdaaAmR
namespace Go.Proofs.Ytpigindbfkhgdaa.recordPuts
open Go.RowKit Plain Am Go.WideShapes
set_option maxRecDepth 100000

theorem pars : Try.f3.params.toList = [22] := by kernel_rfl
theorem func : Try.prog.funcs[3]? = some Try.f3 := by kernel_rfl

theorem lifted (os : Os) (started : os.Started) (H : Type) (enc : TypeId × Value → H) :
    ReturnsInHanded {} Try.checked os 3 .any (Rows.recordPutsSpec.pre6 enc Try.prog Try.f3 Rows.recordPutsRow.domain false) (Rows.recordPutsSpec.post enc Try.prog Try.f3 false true false false) := by
  refine returnsInHanded_of_change (C := Try.checked) own started (by kernel_rfl) func
    (ChangeSpec.witness6 (enc := enc) (C := Try.checked) false ⟨#[], #[.slice none 0 0], []⟩ 8 (by kernel_rfl) (by kernel_rfl) (by kernel_rfl) (by kernel_rfl)) ?_
  intro W base args ds gs before hval hW _ _
  refine law_post (P := Try.prog) (tb := 4) 8 laid rfl (by kernel_rfl) (by kernel_rfl) (by rw [pars]; intro t ht; simp at ht; subst ht; exact ⟨by kernel_rfl, by decide +kernel⟩) (by rw [pars]; intro t ht; simp at ht; subst ht; kernel_rfl)
    (fun ds hd => ?_) (fun xss hx => ?_) W base args ds gs before hval hW
  · match ds, hd with
    | [d], _ => rfl
  · rw [pars] at hx ⊢
    match xss, hx with
    | [x], hx =>
      obtain ⟨l, rfl, hw⟩ := row_ty hx.1
      exact puts_c l false hw

theorem holds : Rows.RecordPutsSaid :=
  OpenClaim.holds_of_wide 3 Try.f3 rfl rfl rfl rfl rfl rfl rfl ⟨rfl, rfl, rfl, rfl, rfl⟩ rfl rfl rfl rfl rfl (by kernel_rfl) func (by kernel_rfl)
    (of_decide_eq_true (by kernel_rfl)) (by unfold Func.isWrapper; first | (rw [if_pos (by decide +kernel)]; kernel_rfl) | (rw [if_neg (by decide +kernel)]; exact ⟨rfl, rfl⟩))
    (fun os started H enc _ => lifted os started H enc)
end Go.Proofs.Ytpigindbfkhgdaa.recordPuts
