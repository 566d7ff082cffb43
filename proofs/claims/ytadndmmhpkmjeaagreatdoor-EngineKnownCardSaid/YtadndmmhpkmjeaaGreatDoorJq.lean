/-
  Texts that the claim leans on, one behind the other: Jb, Jc, Jd, Jz.
-/
import Derived.Test.YtadndmmhpkmjeaaGreatDoorRows
import Derived.Test.YtadndmmhpkmjeaaGreatDoorJac
import Derived.Test.YtadndmmhpkmjeaaGreatDoorClc
import Derived.Test.YtadndmmhpkmjeaaGreatDoorJec
import Derived.Test.YtadndmmhpkmjeaaGreatDoorJfc
import Derived.JoinedOf

/-
  The row's closed facts, each by itself (b).
-/
namespace Go.Proofs.YtadndmmhpkmjeaaGreatDoor
open Go
set_option maxRecDepth 1000000
theorem j9 : (Rows.engineKnownRow.inPlace == Tryz.prog.inPlace 3) = true := by
  unfold Program.inPlace
  rw [closureL]
  kernel_rfl
end Go.Proofs.YtadndmmhpkmjeaaGreatDoor

/-
  The row's closed facts, each by itself (c).
-/
namespace Go.Proofs.YtadndmmhpkmjeaaGreatDoor
open Go
set_option maxRecDepth 1000000
theorem j10 : (Rows.engineKnownRow.unfollowed == Tryz.prog.unfollowed 3) = true := by
  unfold Program.unfollowed
  rw [closureL]
  kernel_rfl
end Go.Proofs.YtadndmmhpkmjeaaGreatDoor

/-
  The row's closed facts, each by itself (d).
-/
namespace Go.Proofs.YtadndmmhpkmjeaaGreatDoor
open Go
set_option maxRecDepth 1000000
theorem unfL : Tryz.prog.unfollowed 3 = true := by
  unfold Program.unfollowed
  rw [closureL]
  kernel_rfl
theorem j11 : (Rows.engineKnownRow.recurses == Tryz.prog.recurses 3) = true := by
  unfold Program.recurses
  rw [unfL, Bool.true_or]
  kernel_rfl
end Go.Proofs.YtadndmmhpkmjeaaGreatDoor

/-
  The row's closed facts.
-/
namespace Go.Proofs.YtadndmmhpkmjeaaGreatDoor
open Go
set_option maxRecDepth 1000000
theorem closedL : joinedFacts Tryz.pinned.checked.prog 3 Tryz.f3 Rows.engineKnownSpec Rows.engineKnownRow = true := by
  show joinedFacts Tryz.prog _ _ _ _ = true
  unfold joinedFacts
  simp only [Bool.and_eq_true]
  exact ⟨⟨⟨⟨⟨⟨⟨⟨⟨⟨⟨⟨⟨⟨⟨⟨⟨⟨⟨⟨⟨⟨⟨⟨⟨⟨⟨⟨⟨⟨⟨j0, j1⟩, j2⟩, j3⟩, j4⟩, j5⟩, j6⟩, j7⟩, j8⟩, j9⟩, j10⟩, j11⟩, j12⟩, j13⟩, j14⟩, j15⟩, j16⟩, j17⟩, j18⟩, j19⟩, j20⟩, j21⟩, j22⟩, j23⟩, j24⟩, j25⟩, j26⟩, j27⟩, j28⟩, j29⟩, j30⟩, j31⟩
end Go.Proofs.YtadndmmhpkmjeaaGreatDoor
