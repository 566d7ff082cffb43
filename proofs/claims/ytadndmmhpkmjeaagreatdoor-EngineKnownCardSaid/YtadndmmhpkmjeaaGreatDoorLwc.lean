/-
  EngineKnown: the law of the document's examples for the writing statements answers true.
-/
import Derived.Test.YtadndmmhpkmjeaaGreatDoorCards
import Derived.Test.YtadndmmhpkmjeaaGreatDoorAmE
import Derived.Test.YtadndmmhpkmjeaaGreatDoorKcc
import Derived.Test.YtadndmmhpkmjeaaGreatDoorSz
import Derived.Test.YtadndmmhpkmjeaaGreatDoorJq
import Derived.ProofKit
import Derived.LaidMore
import Derived.OpenShut
import Derived.Stop.Joined

namespace Go.Proofs.YtadndmmhpkmjeaaGreatDoor
open Go.ChangeShapes Go.WideShapes Go.ChangeAt Go.WideMaps Go.WideElems Go.RowKit Am
set_option maxRecDepth 1000000

theorem ownL : ownKnob Tryz.prog.godebug = none := by kernel_rfl
theorem parsL : Tryz.f3.params.toList = [] := by kernel_rfl

theorem L9_plain : (L9.filter fun x => x.2.handleName?.isSome) = [] := by kernel_rfl

theorem start_met (os : Os) (args : Array Value) : laidMet Tryz.prog L9 ((wP os).forCall (fun _ _ => 0) ⟨#[], args, []⟩).memory := by
  have h : ((wP os).forCall (fun _ _ => 0) ⟨#[], args, []⟩).memory = wP default := by
    unfold World.memory World.forCall wP
    rw [Input.heap_fresh rfl]
    simp
  rw [h]
  exact laid_of_run 8 s8 s9 s10
theorem start_metH (os : Os) (args : Array Value) : laidMetH Tryz.prog L9 ((wP os).forCall (fun _ _ => 0) ⟨#[], args, []⟩).memory := by
  unfold laidMetH
  rw [L9_plain]
  exact start_met os args

theorem asciiL : (Rows.laid_strings_asciiSpace : DataW Unit) = Lib.tabData .u8 Lib.asciiSpaceTab := by kernel_rfl
theorem powL : (Rows.laid_internal_strconv_uint64pow10 : DataW Unit) = Lib.tabData .u64 Lib.pow10Tab := by kernel_rfl

/-- The listed tables lie where the machine wants them. -/
theorem gl_laid {W : World} (h : laidMetH Tryz.prog L9 W) : ∀ p ∈ Gl.gl, ∃ ty fz, W.heap[p.1]? = some (.cells p.2 ty fz) := by
  unfold laidMetH at h
  rw [L9_plain] at h
  obtain ⟨ps, h, _⟩ := h
  obtain ⟨q, h1⟩ := laidVars_drop 0 h
  obtain ⟨q2, h2⟩ := laidVars_drop 4 h
  intro p hp
  simp only [Gl.gl, List.mem_cons, List.mem_nil_iff, or_false] at hp
  rcases hp with rfl | rfl
  · have h3 : DataW.LaidVars Tryz.prog W (("strings.asciiSpace", Lib.tabData .u8 Lib.asciiSpaceTab) :: L9.drop (0 + 1)) q := by
      rw [← asciiL]; exact h1
    exact laidVars_tab (t := 491) (e := 5) (n := 256) glob_space (by kernel_rfl) Tryz.underlying491 Tryz.underlying5 (by kernel_rfl) (by kernel_rfl) h3
  · have h3 : DataW.LaidVars Tryz.prog W (("internal/strconv.uint64pow10", Lib.tabData .u64 Lib.pow10Tab) :: L9.drop (4 + 1)) q2 := by
      rw [← powL]; exact h2
    exact laidVars_tab (t := 683) (e := 38) (n := 20) glob_pow (by kernel_rfl) Tryz.underlying683 Tryz.underlying38 (by kernel_rfl) (by kernel_rfl) h3

theorem q_last : Go.Am.C Tryz.prog 3 [] [] (fun r o => r = .d (.bool true) ∧ o = []) := c624

theorem lifted (os : Os) (started : os.Started) (H : Type) (enc : TypeId × Value → H) :
    ReturnsInHanded {} Tryz.checked os 3 .any (fun w args => (Rows.engineKnownSpec.pre enc Tryz.prog Tryz.f3 [] false w args ∧ laidMetH Tryz.prog L9 w) ∧ sizedMet enc Tryz.prog Tryz.f3 (OpenSpec.ofChange Rows.engineKnownSpec) false w args)
      (Rows.engineKnownSpec.post enc Tryz.prog Tryz.f3 false true false false) := by
  refine returnsInHanded_of_change_and (C := Tryz.checked) (X := fun w _ => laidMetH Tryz.prog L9 w) (fun _ _ _ hh h => h.of_heap hh) ownL started (by kernel_rfl) Tryz.func3
    (ChangeSpec.witness_shaped (enc := enc) (C := Tryz.checked) (os := os) (X := fun w _ => laidMetH Tryz.prog L9 w) false (wP os) #[] 8 rfl (World.shaped_of_RefB (by kernel_rfl) (by kernel_rfl)) (by kernel_rfl) (by kernel_rfl) (by kernel_rfl) (start_metH os _)) ?_
  intro W base args ds gs before _ hW _ _ hL _
  exact law_post0 (tb := 4) rfl parsL (by kernel_rfl) (by kernel_rfl) rfl q_last W args ds gs before (gl_laid hL) hW

theorem row_holds : Rows.EngineKnownSaid :=
  OpenClaim.holds_of_wide 3 Tryz.f3 rfl rfl rfl rfl rfl rfl rfl ⟨rfl, rfl, rfl, rfl, rfl⟩ rfl rfl rfl rfl rfl (by kernel_rfl) Tryz.func3 closedL
    (of_decide_eq_true (by kernel_rfl)) (by unfold Func.isWrapper; first | (rw [if_pos (by decide +kernel)]; kernel_rfl) | (rw [if_neg (by decide +kernel)]; exact ⟨rfl, rfl⟩))
    (fun os started H enc _ => lifted os started H enc)
end Go.Proofs.YtadndmmhpkmjeaaGreatDoor
