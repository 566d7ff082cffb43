/-
  The table with node.Take in it.
-/
import Derived.Test.YtchmeldlpoimnaaAmQ1
namespace Go.Proofs.Ytchmeldlpoimnaa
open Go.RowKit Am IntWalk
set_option maxRecDepth 100000
set_option linter.unusedVariables false

noncomputable def takeEn : Ent := fun x o => match x, o with
  | [.d (.str s)], [] => some (.tup [.d (nD (takeBy parseN s).1), .d (.int .i64 (takeBy parseN s).2)], [], [decide (s.length ≤ 4096)])
  | _, _ => none
theorem take_ent : EntOk Try.prog 26 takeEn := by
  intro x o r o' c hg hc
  unfold takeEn at hg
  split at hg
  · rename_i s
    simp only [Option.some.injEq, Prod.mk.injEq] at hg
    obtain ⟨rfl, rfl, rfl⟩ := hg
    exact take_c s (of_decide_eq_true (hc _ (by simp)))
  · cases hg
noncomputable def tpC : List (Nat × Ent) := (26, takeEn) :: tpB
theorem tpC_ok : EntsOk Try.prog tpC := .cons take_ent tpB_ok
theorem takeBy_cases (p : Bs → Nod) (s : Bs) : (takeBy p s = (⟨0, 0, [], []⟩, 7)) ∨ ∃ M, takeBy p s = (M, 0) ∧ putE M = 0 ∧ putS M = s := by
  unfold takeBy
  split
  · rename_i h; exact .inr ⟨p s, rfl, h.1, h.2⟩
  · exact .inl rfl
end Go.Proofs.Ytchmeldlpoimnaa
