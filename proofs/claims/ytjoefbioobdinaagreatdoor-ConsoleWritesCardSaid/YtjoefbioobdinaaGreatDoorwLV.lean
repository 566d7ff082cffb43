/-
  ConsoleWrites: the closed facts of a start, and of the function's name, each by itself.
-/
import Derived.Test.YtjoefbioobdinaaGreatDoorCards
import Derived.Test.YtjoefbioobdinaaGreatDoorwLT
namespace Go.Proofs.YtjoefbioobdinaaGreatDoor
open Go Go.ChangeShapes Go.WideShapes Go.ChangeAt Go.RowKit
set_option maxRecDepth 1000000
theorem IQ:Tryz.prog.funcNamed "counterfoil/counterfoillaw32.ConsoleWrites" = some 4:=by kernel_rfl
theorem VA:Tryz.prog.inits.idxOf? 4=none:=by kernel_rfl
theorem YB:Tryz.f4.resultTypes = #[4]:=by kernel_rfl
theorem VB:Tryz.f4.isInstance Tryz.prog Rows.consoleWritesRow.origin Rows.consoleWritesRow.targs:=of_decide_eq_true (by kernel_rfl)
theorem VD:Tryz.f4.isWrapper Tryz.prog Rows.consoleWritesRow.wrapper Rows.consoleWritesRow.mainSum:=by unfold Func.isWrapper;first | (rw [if_pos (by decide +kernel)];kernel_rfl) | (rw [if_neg (by decide +kernel)];exact ⟨rfl,rfl⟩)
theorem abg (os:Os):Input.okWideB Tryz.prog ((wP os).forCall (fun _ _=>0) ⟨#[],#[.agg #[.int .i64 0,.int .i64 0,.int .i64 0,.int .i64 0,.int .u8 0,.string ⟨#[]⟩,.slice none 0 0]],[]⟩) 4 ⟨#[],#[.agg #[.int .i64 0,.int .i64 0,.int .i64 0,.int .i64 0,.int .u8 0,.string ⟨#[]⟩,.slice none 0 0]],[]⟩=true:=by kernel_rfl
theorem YC {H:Type} {enc:TypeId×Value→H} (os:Os):Rows.consoleWritesSpec.preB enc Tryz.prog Tryz.f4 [] false ((wP os).forCall (fun _ _=>0) ⟨#[],#[.agg #[.int .i64 0,.int .i64 0,.int .i64 0,.int .i64 0,.int .u8 0,.string ⟨#[]⟩,.slice none 0 0]],[]⟩).memory #[.agg #[.int .i64 0,.int .i64 0,.int .i64 0,.int .i64 0,.int .u8 0,.string ⟨#[]⟩,.slice none 0 0]] 8=true:=by kernel_rfl
theorem abh {H:Type} {enc:TypeId×Value→H} (os:Os):Rows.consoleWritesSpec.sizedB enc Tryz.prog Tryz.f4 false ((wP os).forCall (fun _ _=>0) ⟨#[],#[.agg #[.int .i64 0,.int .i64 0,.int .i64 0,.int .i64 0,.int .u8 0,.string ⟨#[]⟩,.slice none 0 0]],[]⟩).memory #[.agg #[.int .i64 0,.int .i64 0,.int .i64 0,.int .i64 0,.int .u8 0,.string ⟨#[]⟩,.slice none 0 0]] 8=true:=by kernel_rfl
end Go.Proofs.YtjoefbioobdinaaGreatDoor
