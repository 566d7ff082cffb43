/-
  Texts that the claim leans on: Caw, Cb, Ccw.
-/
import Derived.Test.YtjoefbioobdinaaGreatDoorCards
import Derived.SevenTiedAt
namespace Go.Proofs.YtjoefbioobdinaaGreatDoor
open Go
set_option maxRecDepth 1000000
theorem VE:Rows.consoleWritesRow.wfByText (OpenSpec.ofChange Rows.consoleWritesSpec)=true:=by kernel_rfl
theorem VF:Tryz.pinned.checked.prog.mainIs=some (true,"56ccc94b269147e92fadfced6e5bcdee9cd36882ce7faca6448babe57942845f".toList):=by kernel_rfl
theorem VG:true=Tryz.pinned.checked.prog.looks []:=by kernel_rfl
theorem NR:Tryz.prog.funcs.toList.all (fun f=>!f.goes)=true:=by kernel_rfl
theorem JX {P:Program} (h:P.funcs.toList.all (fun f=>!f.goes)=true) (f:FuncId):P.goes f=false:=by
 have hall:∀fn∈P.funcs,fn.goes=false:=fun fn hf=>by
  have:=List.all_eq_true.1 h fn (by simpa using hf)
  simpa using this
 have h1:P.funcs.any Func.goes=false:=by
  rw [Bool.eq_false_iff];intro hh;obtain ⟨i,hi,hg⟩:=Array.any_eq_true.1 hh;rw [hall _ (Array.getElem_mem hi)] at hg;cases hg
 unfold Program.goes;rw [h1,Bool.and_false,Bool.or_false,Bool.eq_false_iff];intro hh;obtain ⟨g,_,hg⟩:=List.any_eq_true.1 hh;cases hx:P.funcs[g]? with
 | none=>rw [hx] at hg;cases hg
 | some fn=>
   rw [hx] at hg
   have:fn.goes=true:=hg
   rw [hall fn (Array.mem_of_getElem? hx)] at this;cases this
theorem EX {P:Program} (h:P.funcs.toList.all (fun f=>!f.goes)=true) (func:String):P.goesAt .entering func=false:=by
 have h2:P.goesFrom func=false:=by
  unfold Program.goesFrom;cases P.funcNamed func with
  | none=>rfl
  | some f=>exact JX h f
 unfold Program.goesAt;rw [h2];rfl
theorem VH:false=Rows.consoleWritesRow.goesBy Tryz.pinned.checked.prog:=(EX (P:=Tryz.prog) NR Rows.consoleWritesRow.func).symm
end Go.Proofs.YtjoefbioobdinaaGreatDoor
