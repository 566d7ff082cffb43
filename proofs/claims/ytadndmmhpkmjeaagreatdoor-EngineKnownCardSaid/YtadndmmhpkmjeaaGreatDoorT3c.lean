/-
  The run of the program's own initialisers, from the heap in which no variable is laid: it ends, and leaves that memory.
-/
import Derived.Test.YtadndmmhpkmjeaaGreatDoorT2c
import Derived.LaidByTextLater

namespace Go.Proofs.YtadndmmhpkmjeaaGreatDoor
open Go.RowKit Am
set_option maxRecDepth 1000000

theorem unlaid_heap : ∀ os, (World.unlaid Tryz.prog os).heap = memA := fun _ => by kernel_rfl
theorem vNoInit : Tryz.prog.inits.idxOf? 620 = none := by kernel_rfl

theorem vars_run (os : Os) (tape : Tape) : ∃ n v w', runN Tryz.prog n (Machine.entering Tryz.prog (World.unlaid Tryz.prog os) tape 620 ⟨#[], #[], []⟩) = .ended (.done v) w' ∧ w'.memory = memW := by
  have hC := varsCalls tape 0 (World.unlaid Tryz.prog os).os (World.unlaid Tryz.prog os).output
  have hD := Calls.done (R := fun _ w' => w'.heap = memB) (hC.mono fun e w' h => by obtain ⟨v, rfl, h⟩ := h; exact h) vNoInit
  obtain ⟨n, v, w', hr, hh⟩ := hD
  refine ⟨n, v, w', ?_, ?_⟩
  · have hw : Machine.entering Tryz.prog (World.unlaid Tryz.prog os) tape 620 ⟨#[], #[], []⟩ = lone (Frame.enter Tryz.prog 620 #[] .normal) [] { heap := memA, tape := tape, drawn := 0, os := (World.unlaid Tryz.prog os).os, output := (World.unlaid Tryz.prog os).output } := by
      unfold Machine.entering
      rw [show (⟨#[], #[], []⟩ : Input).heap (World.unlaid Tryz.prog os).heap = memA by rw [unlaid_heap]; rfl]
      rfl
    rw [hw]; exact hr
  · unfold World.memory memW
    rw [hh]
end Go.Proofs.YtadndmmhpkmjeaaGreatDoor
