/-
  ConsoleReads: the closed facts of a start, and of the function's name, each by itself.
-/
import Derived.Test.YtjoefbioobdinaaGreatDoorCards
import Derived.Test.YtjoefbioobdinaaGreatDoorrLT
namespace Go.Proofs.YtjoefbioobdinaaGreatDoor
open Go Go.ChangeShapes Go.WideShapes Go.ChangeAt Go.RowKit
set_option maxRecDepth 1000000
theorem Jo:Tryz.prog.funcNamed "counterfoil/counterfoillaw32.ConsoleReads" = some 3:=by kernel_rfl
theorem Wu:Tryz.prog.inits.idxOf? 3=none:=by kernel_rfl
theorem Y8:Tryz.f3.resultTypes = #[4]:=by kernel_rfl
theorem Wv:Tryz.f3.isInstance Tryz.prog Rows.consoleReadsRow.origin Rows.consoleReadsRow.targs:=of_decide_eq_true (by kernel_rfl)
theorem Ww:Tryz.f3.isWrapper Tryz.prog Rows.consoleReadsRow.wrapper Rows.consoleReadsRow.mainSum:=by unfold Func.isWrapper;first | (rw [if_pos (by decide +kernel)];kernel_rfl) | (rw [if_neg (by decide +kernel)];exact ⟨rfl,rfl⟩)
theorem abP (os:Os):Input.okWideB Tryz.prog ((wP os).forCall (fun _ _=>0) ⟨#[],#[.string ⟨#[]⟩],[]⟩) 3 ⟨#[],#[.string ⟨#[]⟩],[]⟩=true:=by kernel_rfl
theorem Y9 {H:Type} {enc:TypeId×Value→H} (os:Os):Rows.consoleReadsSpec.preB enc Tryz.prog Tryz.f3 [] false ((wP os).forCall (fun _ _=>0) ⟨#[],#[.string ⟨#[]⟩],[]⟩).memory #[.string ⟨#[]⟩] 8=true:=by kernel_rfl
theorem abQ {H:Type} {enc:TypeId×Value→H} (os:Os):Rows.consoleReadsSpec.sizedB enc Tryz.prog Tryz.f3 false ((wP os).forCall (fun _ _=>0) ⟨#[],#[.string ⟨#[]⟩],[]⟩).memory #[.string ⟨#[]⟩] 8=true:=by kernel_rfl
end Go.Proofs.YtjoefbioobdinaaGreatDoor
