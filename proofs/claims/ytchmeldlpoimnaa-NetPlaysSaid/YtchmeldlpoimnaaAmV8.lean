/-
  Letters as the reference keeps them: tables where add has room, and where it has none.
-/
import Derived.Test.YtchmeldlpoimnaaAmV7
import Derived.Test.YtchmeldlpoimnaaAmW3
namespace Go.Proofs.Ytchmeldlpoimnaa
open Go.RowKit Am IntWalk
set_option maxRecDepth 100000
set_option linter.unusedVariables false

def addOk : Ent := fun a o => match a, o with
  | [.ptr 0 0, .d x], [.box 72 [.own 1 5, .d (.int .i64 last)], .frz 5 els] =>
    some (.tup [.d (.int .i64 (last + 1)), .d (.int .i64 0)], [.box 72 [.own 2 5, .d (.int .i64 (last + 1))], .frz 5 els, .arr 61 5 (List.map lD (els.map toL ++ [(⟨last + 1, (toL x).frm, (toL x).dst, (toL x).bs, (toL x).sp⟩ : Ltr)]))], [isL x, els.all isL, decide (els.length < 64), decide (0 ≤ last ∧ last < 1000000)])
  | _, _ => none
def addNo : Ent := fun a o => match a, o with
  | [.ptr 0 0, .d x], [.box 72 [.own 1 5, .d (.int .i64 last)], .frz 5 els] =>
    some (.tup [.d (.int .i64 0), .d (.int .i64 8)], [.box 72 [.own 1 5, .d (.int .i64 last)], .frz 5 els], [isL x, els.all isL, decide (64 ≤ els.length), decide (0 ≤ last ∧ last < 1000000)])
  | _, _ => none
theorem addOk_ent : EntOk Try.prog 83 addOk := by
  intro p o r o' c hg hc
  unfold addOk at hg
  split at hg
  · rename_i x last els
    simp only [Option.some.injEq, Prod.mk.injEq] at hg
    obtain ⟨rfl, rfl, rfl⟩ := hg
    have h0 : isL x = true := hc (isL x) (by simp)
    have h1 : els.all isL = true := hc (els.all isL) (by simp)
    have h2 : els.length < 64 := of_decide_eq_true (hc _ (by simp))
    have h3 : 0 ≤ last ∧ last < 1000000 := of_decide_eq_true (hc _ (by simp))
    have e := map_toL h1
    have e0 := isL_spec h0
    generalize els.map toL = L at *
    generalize toL x = z at *
    subst e e0
    rw [List.length_map] at h2
    exact addR_ok z L last h2 h3
  · cases hg
theorem addNo_ent : EntOk Try.prog 83 addNo := by
  intro p o r o' c hg hc
  unfold addNo at hg
  split at hg
  · rename_i x last els
    simp only [Option.some.injEq, Prod.mk.injEq] at hg
    obtain ⟨rfl, rfl, rfl⟩ := hg
    have h0 : isL x = true := hc (isL x) (by simp)
    have h1 : els.all isL = true := hc (els.all isL) (by simp)
    have h2 : 64 ≤ els.length := of_decide_eq_true (hc _ (by simp))
    have h3 : 0 ≤ last ∧ last < 1000000 := of_decide_eq_true (hc _ (by simp))
    have e := map_toL h1
    have e0 := isL_spec h0
    generalize els.map toL = L at *
    generalize toL x = z at *
    subst e e0
    rw [List.length_map] at h2
    exact addR_no z L last h2 h3
  · cases hg
noncomputable def tr0 : List (Nat × Ent) := (84, atEn) :: (48, e2 eqEn) :: tw0
theorem tr0_ok (h : EntsOk Try.prog tw0) : EntsOk Try.prog tr0 := .cons at_ent (.cons equal_ent h)
noncomputable def trY : List (Nat × Ent) := (83, addOk) :: tr0
noncomputable def trN : List (Nat × Ent) := (83, addNo) :: tr0
end Go.Proofs.Ytchmeldlpoimnaa
