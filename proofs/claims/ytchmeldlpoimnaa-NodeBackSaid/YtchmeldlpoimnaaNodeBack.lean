/-
  NodeBack: at every argument the law answers true, and the arguments read afterwards as they read before. No condition.
-/
import Derived.Test.YtchmeldlpoimnaaAmBn
import Derived.Test.YtchmeldlpoimnaaAmNT
import Derived.Test.YtchmeldlpoimnaaRows
namespace Go.Proofs.Ytchmeldlpoimnaa.nodeBack
open Go.RowKit Am Go.WideShapes
set_option maxRecDepth 100000

theorem pars : Try.f8.params.toList = [39, 9] := by kernel_rfl
theorem func : Try.prog.funcs[8]? = some Try.f8 := by kernel_rfl

theorem lifted (os : Os) (started : os.Started) (H : Type) (enc : TypeId × Value → H) :
    ReturnsInHanded {} Try.checked os 8 .any (Rows.nodeBackSpec.pre6 enc Try.prog Try.f8 Rows.nodeBackRow.domain false) (Rows.nodeBackSpec.post enc Try.prog Try.f8 false true false false) := by
  refine returnsInHanded_of_change (C := Try.checked) own started (by kernel_rfl) func
    (ChangeSpec.witness6 (enc := enc) (C := Try.checked) false ⟨#[], #[.agg #[.int .u8 0, .int .i64 0, .slice none 0 0, .string ⟨#[]⟩], .string ⟨#[]⟩], []⟩ 8 (by kernel_rfl) (by kernel_rfl) (by kernel_rfl) (by kernel_rfl)) ?_
  intro W base args ds gs before hval hW _ _
  refine law_post (P := Try.prog) (tb := 4) 8 laid rfl (by kernel_rfl) (by kernel_rfl) (by rw [pars]; intro t ht; simp at ht; rcases ht with rfl | rfl <;> exact ⟨by kernel_rfl, by decide +kernel⟩) (by rw [pars]; intro t ht; simp at ht; rcases ht with rfl | rfl <;> kernel_rfl)
    (fun ds hd => ?_) (fun xss hx => ?_) W base args ds gs before hval hW
  · match ds, hd with
    | [d0, d1], _ => rfl
  · rw [pars] at hx ⊢
    match xss, hx with
    | [x0, x1], hx =>
      obtain ⟨l0, v0, w0⟩ := node_ty hx.1
      obtain ⟨l1, rfl, w1⟩ := Ty.str_inv (t := 9) (by kernel_rfl) hx.2.1
      simp only [argsOf, agg_node, elOf, cond_true, List.map_cons, List.map_nil]
      rw [v0]
      exact back_c l0 l1 w0

theorem holds : Rows.NodeBackSaid :=
  OpenClaim.holds_of_wide 8 Try.f8 rfl rfl rfl rfl rfl rfl rfl ⟨rfl, rfl, rfl, rfl, rfl⟩ rfl rfl rfl rfl rfl (by kernel_rfl) func (by kernel_rfl)
    (of_decide_eq_true (by kernel_rfl)) (by unfold Func.isWrapper; first | (rw [if_pos (by decide +kernel)]; kernel_rfl) | (rw [if_neg (by decide +kernel)]; exact ⟨rfl, rfl⟩))
    (fun os started H enc _ => lifted os started H enc)
end Go.Proofs.Ytchmeldlpoimnaa.nodeBack
