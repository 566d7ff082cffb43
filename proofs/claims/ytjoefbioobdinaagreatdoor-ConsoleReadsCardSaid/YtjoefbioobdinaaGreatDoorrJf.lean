/-
  Texts that the claim leans on: Jfr, Jzr.
-/
import Derived.Test.YtjoefbioobdinaaGreatDoorRows
import Derived.Test.YtjoefbioobdinaaGreatDoorrJt
import Derived.Test.YtjoefbioobdinaaGreatDoorrJa
import Derived.Test.YtjoefbioobdinaaGreatDoorrJc
import Derived.JoinedOf
namespace Go.Proofs.YtjoefbioobdinaaGreatDoor
open Go
set_option maxRecDepth 1000000
theorem j0:(Rows.consoleReadsRow.wf (OpenSpec.ofChange Rows.consoleReadsSpec))=true:=by kernel_rfl
theorem j1:(laidOutB Tryz.prog)=true:=DN.1
theorem j2:(mapsRowed Tryz.prog)=true:=DN.2.1
theorem j24:(Tryz.prog.stopsHeard)=true:=by kernel_rfl
theorem j25:(Tryz.prog.mayEnter)=true:=by kernel_rfl
theorem j29:(Rows.consoleReadsRow.pinned==Rows.consoleReadsRow.pinnedBy)=true:=by kernel_rfl
theorem QM:joinedFacts Tryz.pinned.checked.prog 3 Tryz.f3 Rows.consoleReadsSpec Rows.consoleReadsRow=true:=by
 show joinedFacts Tryz.prog _ _ _ _=true
 unfold joinedFacts;simp only [Bool.and_eq_true];exact ⟨⟨⟨⟨⟨⟨⟨⟨⟨⟨⟨⟨⟨⟨⟨⟨⟨⟨⟨⟨⟨⟨⟨⟨⟨⟨⟨⟨⟨⟨⟨j0,j1⟩,j2⟩,j3⟩,j4⟩,j5⟩,j6⟩,j7⟩,j8⟩,j9⟩,j10⟩,j11⟩,j12⟩,j13⟩,j14⟩,j15⟩,j16⟩,j17⟩,j18⟩,j19⟩,j20⟩,j21⟩,j22⟩,j23⟩,j24⟩,j25⟩,j26⟩,j27⟩,j28⟩,j29⟩,j30⟩,j31⟩
end Go.Proofs.YtjoefbioobdinaaGreatDoor
