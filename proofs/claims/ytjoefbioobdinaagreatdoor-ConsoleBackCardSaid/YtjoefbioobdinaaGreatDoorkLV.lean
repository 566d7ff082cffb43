/-
  ConsoleBack: the closed facts of a start, and of the function's name, each by itself.
-/
import Derived.Test.YtjoefbioobdinaaGreatDoorCards
import Derived.Test.YtjoefbioobdinaaGreatDoorkLT
namespace Go.Proofs.YtjoefbioobdinaaGreatDoor
open Go Go.ChangeShapes Go.WideShapes Go.ChangeAt Go.RowKit
set_option maxRecDepth 1000000
theorem Ik:Tryz.prog.funcNamed "counterfoil/counterfoillaw32.ConsoleBack" = some 5:=by kernel_rfl
theorem Vh:Tryz.prog.inits.idxOf? 5=none:=by kernel_rfl
theorem X7:Tryz.f5.resultTypes = #[4]:=by kernel_rfl
theorem Vi:Tryz.f5.isInstance Tryz.prog Rows.consoleBackRow.origin Rows.consoleBackRow.targs:=of_decide_eq_true (by kernel_rfl)
theorem Vj:Tryz.f5.isWrapper Tryz.prog Rows.consoleBackRow.wrapper Rows.consoleBackRow.mainSum:=by unfold Func.isWrapper;first | (rw [if_pos (by decide +kernel)];kernel_rfl) | (rw [if_neg (by decide +kernel)];exact ⟨rfl,rfl⟩)
theorem aaL (os:Os):Input.okWideB Tryz.prog ((wP os).forCall (fun _ _=>0) ⟨#[],#[.agg #[.int .i64 0,.int .i64 0,.int .i64 0,.int .i64 0,.int .u8 0,.string ⟨#[]⟩,.slice none 0 0],.string ⟨#[]⟩],[]⟩) 5 ⟨#[],#[.agg #[.int .i64 0,.int .i64 0,.int .i64 0,.int .i64 0,.int .u8 0,.string ⟨#[]⟩,.slice none 0 0],.string ⟨#[]⟩],[]⟩=true:=by kernel_rfl
theorem X8 {H:Type} {enc:TypeId×Value→H} (os:Os):Rows.consoleBackSpec.preB enc Tryz.prog Tryz.f5 [] false ((wP os).forCall (fun _ _=>0) ⟨#[],#[.agg #[.int .i64 0,.int .i64 0,.int .i64 0,.int .i64 0,.int .u8 0,.string ⟨#[]⟩,.slice none 0 0],.string ⟨#[]⟩],[]⟩).memory #[.agg #[.int .i64 0,.int .i64 0,.int .i64 0,.int .i64 0,.int .u8 0,.string ⟨#[]⟩,.slice none 0 0],.string ⟨#[]⟩] 8=true:=by kernel_rfl
theorem aaM {H:Type} {enc:TypeId×Value→H} (os:Os):Rows.consoleBackSpec.sizedB enc Tryz.prog Tryz.f5 false ((wP os).forCall (fun _ _=>0) ⟨#[],#[.agg #[.int .i64 0,.int .i64 0,.int .i64 0,.int .i64 0,.int .u8 0,.string ⟨#[]⟩,.slice none 0 0],.string ⟨#[]⟩],[]⟩).memory #[.agg #[.int .i64 0,.int .i64 0,.int .i64 0,.int .i64 0,.int .u8 0,.string ⟨#[]⟩,.slice none 0 0],.string ⟨#[]⟩] 8=true:=by kernel_rfl
end Go.Proofs.YtjoefbioobdinaaGreatDoor
