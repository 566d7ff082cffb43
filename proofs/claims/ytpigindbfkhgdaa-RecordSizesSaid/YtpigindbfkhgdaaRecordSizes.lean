/-
  RecordSizes: at every row of values and every value the law answers true, and both read afterwards as they read before. No condition.
-/
import Derived.Test.YtpigindbfkhgdaaAmR
import Derived.Test.YtpigindbfkhgdaaAmS
namespace Go.Proofs.Ytpigindbfkhgdaa.recordSizes
open Go.RowKit Plain Am Go.WideShapes
set_option maxRecDepth 100000

theorem pars : Try.f5.params.toList = [22, 36] := by kernel_rfl
theorem func : Try.prog.funcs[5]? = some Try.f5 := by kernel_rfl

theorem lifted (os : Os) (started : os.Started) (H : Type) (enc : TypeId × Value → H) :
    ReturnsInHanded {} Try.checked os 5 .any (Rows.recordSizesSpec.pre6 enc Try.prog Try.f5 Rows.recordSizesRow.domain false) (Rows.recordSizesSpec.post enc Try.prog Try.f5 false true false false) := by
  refine returnsInHanded_of_change (C := Try.checked) own started (by kernel_rfl) func
    (ChangeSpec.witness6 (enc := enc) (C := Try.checked) false ⟨#[], #[.slice none 0 0, .agg #[.int .u8 0, .int .i64 0, .string ⟨#[]⟩]], []⟩ 8 (by kernel_rfl) (by kernel_rfl) (by kernel_rfl) (by kernel_rfl)) ?_
  intro W base args ds gs before hval hW _ _
  refine law_post (P := Try.prog) (tb := 4) 8 laid rfl (by kernel_rfl) (by kernel_rfl) (by rw [pars]; intro t ht; simp at ht; rcases ht with rfl | rfl <;> exact ⟨by kernel_rfl, by decide +kernel⟩) (by rw [pars]; intro t ht; simp at ht; rcases ht with rfl | rfl <;> kernel_rfl)
    (fun ds hd => ?_) (fun xss hx => ?_) W base args ds gs before hval hW
  · match ds, hd with
    | [d1, d2], _ => rfl
  · rw [pars] at hx ⊢
    match xss, hx with
    | [x, y], hx =>
      obtain ⟨l, rfl, hw⟩ := row_ty hx.1
      obtain ⟨v, hv, hwv⟩ := val_ty hx.2.1
      simp only [argsOf, agg_val, elOf, cond_true, List.map_cons, List.map_nil]
      rw [hv]
      exact sizes_c l v false hw hwv

theorem holds : Rows.RecordSizesSaid :=
  OpenClaim.holds_of_wide 5 Try.f5 rfl rfl rfl rfl rfl rfl rfl ⟨rfl, rfl, rfl, rfl, rfl⟩ rfl rfl rfl rfl rfl (by kernel_rfl) func (by kernel_rfl)
    (of_decide_eq_true (by kernel_rfl)) (by unfold Func.isWrapper; first | (rw [if_pos (by decide +kernel)]; kernel_rfl) | (rw [if_neg (by decide +kernel)]; exact ⟨rfl, rfl⟩))
    (fun os started H enc _ => lifted os started H enc)
end Go.Proofs.Ytpigindbfkhgdaa.recordSizes
