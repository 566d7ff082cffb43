/-
  Texts that the claim leans on: Jfk, Jzk.
-/
import Derived.Test.YtjoefbioobdinaaGreatDoorRows
import Derived.Test.YtjoefbioobdinaaGreatDoorkJt
import Derived.Test.YtjoefbioobdinaaGreatDoorkJa
import Derived.Test.YtjoefbioobdinaaGreatDoorkJc
import Derived.JoinedOf
namespace Go.Proofs.YtjoefbioobdinaaGreatDoor
open Go
set_option maxRecDepth 1000000
theorem j0:(Rows.consoleBackRow.wf (OpenSpec.ofChange Rows.consoleBackSpec))=true:=by kernel_rfl
theorem j1:(laidOutB Tryz.prog)=true:=CB.1
theorem j2:(mapsRowed Tryz.prog)=true:=CB.2.1
theorem j24:(Tryz.prog.stopsHeard)=true:=by kernel_rfl
theorem j25:(Tryz.prog.mayEnter)=true:=by kernel_rfl
theorem j29:(Rows.consoleBackRow.pinned==Rows.consoleBackRow.pinnedBy)=true:=by kernel_rfl
theorem P6:joinedFacts Tryz.pinned.checked.prog 5 Tryz.f5 Rows.consoleBackSpec Rows.consoleBackRow=true:=by
 show joinedFacts Tryz.prog _ _ _ _=true
 unfold joinedFacts;simp only [Bool.and_eq_true];exact ⟨⟨⟨⟨⟨⟨⟨⟨⟨⟨⟨⟨⟨⟨⟨⟨⟨⟨⟨⟨⟨⟨⟨⟨⟨⟨⟨⟨⟨⟨⟨j0,j1⟩,j2⟩,j3⟩,j4⟩,j5⟩,j6⟩,j7⟩,j8⟩,j9⟩,j10⟩,j11⟩,j12⟩,j13⟩,j14⟩,j15⟩,j16⟩,j17⟩,j18⟩,j19⟩,j20⟩,j21⟩,j22⟩,j23⟩,j24⟩,j25⟩,j26⟩,j27⟩,j28⟩,j29⟩,j30⟩,j31⟩
end Go.Proofs.YtjoefbioobdinaaGreatDoor
