/-
  RebaseBoth: at every argument the law answers true, and the arguments read afterwards as they read before. No condition.
-/
import Derived.Test.YtljfolepmkcjlaaXb9
import Derived.Test.YtljfolepmkcjlaaRows
namespace Go.Proofs.Ytljfolepmkcjlaa.rebaseBoth
open Go.RowKit Am Go.WideShapes
set_option maxRecDepth 100000

theorem pars : Try.f4.params.toList = [22, 22, 4] := by kernel_rfl
theorem func : Try.prog.funcs[4]? = some Try.f4 := by kernel_rfl

theorem lifted (os : Os) (started : os.Started) (H : Type) (enc : TypeId × Value → H) :
    ReturnsInHanded {} Try.checked os 4 .any (Rows.rebaseBothSpec.pre6 enc Try.prog Try.f4 Rows.rebaseBothRow.domain false) (Rows.rebaseBothSpec.post enc Try.prog Try.f4 false true false false) := by
  refine returnsInHanded_of_change (C := Try.checked) own started (by kernel_rfl) func
    (ChangeSpec.witness6 (enc := enc) (C := Try.checked) false ⟨#[], #[.slice none 0 0, .slice none 0 0, .bool false], []⟩ 8 (by kernel_rfl) (by kernel_rfl) (by kernel_rfl) (by kernel_rfl)) ?_
  intro W base args ds gs before hval hW _ _
  refine law_post (P := Try.prog) (tb := 4) 8 laid rfl (by kernel_rfl) (by kernel_rfl) (by rw [pars]; intro t ht; simp at ht; rcases ht with rfl | rfl <;> exact ⟨by kernel_rfl, by decide +kernel⟩) (by rw [pars]; intro t ht; simp at ht; rcases ht with rfl | rfl <;> kernel_rfl)
    (fun ds hd => ?_) (fun xss hx => ?_) W base args ds gs before hval hW
  · match ds, hd with
    | [d0, d1, d2], _ => rfl
  · rw [pars] at hx ⊢
    match xss, hx with
    | [x0, x1, x2], hx =>
      obtain ⟨l0, rfl, w0, y0⟩ := chg_ty hx.1
      obtain ⟨l1, rfl, w1, y1⟩ := chg_ty hx.2.1
      obtain ⟨l2, rfl⟩ := Ty.bool_inv (t := 4) (by kernel_rfl) hx.2.2.1
      exact both_c l0 l1 l2 w0 w1 y0 y1

theorem holds : Rows.RebaseBothSaid :=
  OpenClaim.holds_of_wide 4 Try.f4 rfl rfl rfl rfl rfl rfl rfl ⟨rfl, rfl, rfl, rfl, rfl⟩ rfl rfl rfl rfl rfl (by kernel_rfl) func (by kernel_rfl)
    (of_decide_eq_true (by kernel_rfl)) (by unfold Func.isWrapper; first | (rw [if_pos (by decide +kernel)]; kernel_rfl) | (rw [if_neg (by decide +kernel)]; exact ⟨rfl, rfl⟩))
    (fun os started H enc _ => lifted os started H enc)
end Go.Proofs.Ytljfolepmkcjlaa.rebaseBoth
