/-
  Texts that the claim leans on, one behind the other: Jb, Jc, Jd, Jz.
-/
import Derived.Test.YtiiookmnofhlmaaGreatDoorRows
import Derived.Test.YtiiookmnofhlmaaGreatDoorJac
import Derived.Test.YtiiookmnofhlmaaGreatDoorClc
import Derived.Test.YtiiookmnofhlmaaGreatDoorJec
import Derived.Test.YtiiookmnofhlmaaGreatDoorJfc
import Derived.JoinedOf

/-
  The row's closed facts, each by itself (b).
-/
namespace Go.Proofs.YtiiookmnofhlmaaGreatDoor
open Go
set_option maxRecDepth 1000000
theorem j9 : (Rows.applyKnownRow.inPlace == Tryz.prog.inPlace 3) = true := by
  unfold Program.inPlace
  rw [closureL]
  kernel_rfl
end Go.Proofs.YtiiookmnofhlmaaGreatDoor

/-
  The row's closed facts, each by itself (c).
-/
namespace Go.Proofs.YtiiookmnofhlmaaGreatDoor
open Go
set_option maxRecDepth 1000000
theorem j10 : (Rows.applyKnownRow.unfollowed == Tryz.prog.unfollowed 3) = true := by
  unfold Program.unfollowed
  rw [closureL]
  kernel_rfl
end Go.Proofs.YtiiookmnofhlmaaGreatDoor

/-
  The row's closed facts, each by itself (d).
-/
namespace Go.Proofs.YtiiookmnofhlmaaGreatDoor
open Go
set_option maxRecDepth 1000000
theorem unfL : Tryz.prog.unfollowed 3 = true := by
  unfold Program.unfollowed
  rw [closureL]
  kernel_rfl
theorem j11 : (Rows.applyKnownRow.recurses == Tryz.prog.recurses 3) = true := by
  unfold Program.recurses
  rw [unfL, Bool.true_or]
  kernel_rfl
end Go.Proofs.YtiiookmnofhlmaaGreatDoor

/-
  The row's closed facts.
-/
namespace Go.Proofs.YtiiookmnofhlmaaGreatDoor
open Go
set_option maxRecDepth 1000000
theorem closedL : joinedFacts Tryz.pinned.checked.prog 3 Tryz.f3 Rows.applyKnownSpec Rows.applyKnownRow = true := by
  show joinedFacts Tryz.prog _ _ _ _ = true
  unfold joinedFacts
  simp only [Bool.and_eq_true]
  exact ⟨⟨⟨⟨⟨⟨⟨⟨⟨⟨⟨⟨⟨⟨⟨⟨⟨⟨⟨⟨⟨⟨⟨⟨⟨⟨⟨⟨⟨⟨⟨j0, j1⟩, j2⟩, j3⟩, j4⟩, j5⟩, j6⟩, j7⟩, j8⟩, j9⟩, j10⟩, j11⟩, j12⟩, j13⟩, j14⟩, j15⟩, j16⟩, j17⟩, j18⟩, j19⟩, j20⟩, j21⟩, j22⟩, j23⟩, j24⟩, j25⟩, j26⟩, j27⟩, j28⟩, j29⟩, j30⟩, j31⟩
end Go.Proofs.YtiiookmnofhlmaaGreatDoor
