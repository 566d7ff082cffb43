/-
  Texts that the claim leans on, one behind the other: Ca, Cb, Cc.
-/
import Derived.Test.YtadndmmhpkmjeaaGreatDoorCards
import Derived.SevenTiedAt

/-
  The card's closed facts, each by itself (a).
-/
namespace Go.Proofs.YtadndmmhpkmjeaaGreatDoor
open Go
set_option maxRecDepth 1000000
theorem card_a : Rows.engineKnownRow.wfByText (OpenSpec.ofChange Rows.engineKnownSpec) = true := by kernel_rfl
theorem card_b : Tryz.pinned.checked.prog.mainIs = some (true, "cc363d8f4d9210f2b0ce759bcd82c83feefed1b9a8d1d2ec20764ee1095c1800".toList) := by kernel_rfl
end Go.Proofs.YtadndmmhpkmjeaaGreatDoor

/-
  The card's closed facts, each by itself (b).
-/
namespace Go.Proofs.YtadndmmhpkmjeaaGreatDoor
open Go
set_option maxRecDepth 1000000
theorem card_c : true = Tryz.pinned.checked.prog.looks [] := by kernel_rfl
end Go.Proofs.YtadndmmhpkmjeaaGreatDoor

/-
  The card's closed facts: no function of the translation starts a goroutine, so the call does not.
-/
namespace Go.Proofs.YtadndmmhpkmjeaaGreatDoor
open Go
set_option maxRecDepth 1000000
theorem noneGoes : Tryz.prog.funcs.toList.all (fun f => !f.goes) = true := by kernel_rfl
theorem goes_none {P : Program} (h : P.funcs.toList.all (fun f => !f.goes) = true) (f : FuncId) : P.goes f = false := by
  have hall : ∀ fn ∈ P.funcs, fn.goes = false := fun fn hf => by
    have := List.all_eq_true.1 h fn (by simpa using hf)
    simpa using this
  have h1 : P.funcs.any Func.goes = false := by
    rw [Bool.eq_false_iff]
    intro hh
    obtain ⟨i, hi, hg⟩ := Array.any_eq_true.1 hh
    rw [hall _ (Array.getElem_mem hi)] at hg
    cases hg
  unfold Program.goes
  rw [h1, Bool.and_false, Bool.or_false, Bool.eq_false_iff]
  intro hh
  obtain ⟨g, _, hg⟩ := List.any_eq_true.1 hh
  cases hx : P.funcs[g]? with
  | none => rw [hx] at hg; cases hg
  | some fn =>
    rw [hx] at hg
    have : fn.goes = true := hg
    rw [hall fn (Array.mem_of_getElem? hx)] at this
    cases this
theorem goesAt_none {P : Program} (h : P.funcs.toList.all (fun f => !f.goes) = true) (func : String) : P.goesAt .entering func = false := by
  have h2 : P.goesFrom func = false := by
    unfold Program.goesFrom
    cases P.funcNamed func with
    | none => rfl
    | some f => exact goes_none h f
  unfold Program.goesAt
  rw [h2]
  rfl
theorem card_d : false = Rows.engineKnownRow.goesBy Tryz.pinned.checked.prog := (goesAt_none (P := Tryz.prog) noneGoes Rows.engineKnownRow.func).symm
end Go.Proofs.YtadndmmhpkmjeaaGreatDoor
