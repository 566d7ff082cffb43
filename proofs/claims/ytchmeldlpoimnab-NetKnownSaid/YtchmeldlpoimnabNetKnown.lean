/-
  NetKnown: the law answers true. No condition.
-/
import Derived.Test.YtchmeldlpoimnabAmNw
import Derived.Test.YtchmeldlpoimnabRows
namespace Go.Proofs.Ytchmeldlpoimnab.netKnown
open Go.RowKit Am Go.WideShapes
set_option maxRecDepth 100000

theorem pars : Try.f8.params.toList = [] := by kernel_rfl
theorem func : Try.prog.funcs[8]? = some Try.f8 := by kernel_rfl

theorem lifted (os : Os) (started : os.Started) (H : Type) (enc : TypeId × Value → H) :
    ReturnsInHanded {} Try.checked os 8 .any (Rows.netKnownSpec.pre6 enc Try.prog Try.f8 Rows.netKnownRow.domain false) (Rows.netKnownSpec.post enc Try.prog Try.f8 false true false false) := by
  refine returnsInHanded_of_change (C := Try.checked) own started (by kernel_rfl) func
    (ChangeSpec.witness6 (enc := enc) (C := Try.checked) false ⟨#[], #[], []⟩ 8 (by kernel_rfl) (by kernel_rfl) (by kernel_rfl) (by kernel_rfl)) ?_
  intro W base args ds gs before hval hW _ _
  refine law_post (P := Try.prog) (tb := 4) 8 laid rfl (by kernel_rfl) (by kernel_rfl) (by rw [pars]; intro t ht; simp at ht) (by rw [pars]; intro t ht; simp at ht)
    (fun ds hd => ?_) (fun xss hx => ?_) W base args ds gs before hval hW
  · match ds, hd with
    | [], _ => rfl
  · rw [pars] at hx ⊢
    match xss, hx with
    | [], _ => exact nknown_c

theorem holds : Rows.NetKnownSaid :=
  OpenClaim.holds_of_wide 8 Try.f8 rfl rfl rfl rfl rfl rfl rfl ⟨rfl, rfl, rfl, rfl, rfl⟩ rfl rfl rfl rfl rfl (by kernel_rfl) func (by kernel_rfl)
    (of_decide_eq_true (by kernel_rfl)) (by unfold Func.isWrapper; first | (rw [if_pos (by decide +kernel)]; kernel_rfl) | (rw [if_neg (by decide +kernel)]; exact ⟨rfl, rfl⟩))
    (fun os started H enc _ => lifted os started H enc)
end Go.Proofs.Ytchmeldlpoimnab.netKnown
