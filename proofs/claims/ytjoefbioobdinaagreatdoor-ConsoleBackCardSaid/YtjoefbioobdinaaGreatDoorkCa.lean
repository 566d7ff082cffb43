/-
  Texts that the claim leans on: Cak, Cb, Cck.
-/
import Derived.Test.YtjoefbioobdinaaGreatDoorCards
import Derived.SevenTiedAt
namespace Go.Proofs.YtjoefbioobdinaaGreatDoor
open Go
set_option maxRecDepth 1000000
theorem Vk:Rows.consoleBackRow.wfByText (OpenSpec.ofChange Rows.consoleBackSpec)=true:=by kernel_rfl
theorem Vl:Tryz.pinned.checked.prog.mainIs=some (true,"56ccc94b269147e92fadfced6e5bcdee9cd36882ce7faca6448babe57942845f".toList):=by kernel_rfl
theorem Vm:true=Tryz.pinned.checked.prog.looks []:=by kernel_rfl
theorem Nt:Tryz.prog.funcs.toList.all (fun f=>!f.goes)=true:=by kernel_rfl
theorem JF {P:Program} (h:P.funcs.toList.all (fun f=>!f.goes)=true) (f:FuncId):P.goes f=false:=by
 have hall:∀fn∈P.funcs,fn.goes=false:=fun fn hf=>by
  have:=List.all_eq_true.1 h fn (by simpa using hf)
  simpa using this
 have h1:P.funcs.any Func.goes=false:=by
  rw [Bool.eq_false_iff];intro hh;obtain ⟨i,hi,hg⟩:=Array.any_eq_true.1 hh;rw [hall _ (Array.getElem_mem hi)] at hg;cases hg
 unfold Program.goes;rw [h1,Bool.and_false,Bool.or_false,Bool.eq_false_iff];intro hh;obtain ⟨g,_,hg⟩:=List.any_eq_true.1 hh;cases hx:P.funcs[g]? with
 | none=>rw [hx] at hg;cases hg
 | some fn=>
   rw [hx] at hg
   have:fn.goes=true:=hg
   rw [hall fn (Array.mem_of_getElem? hx)] at this;cases this
theorem Ey {P:Program} (h:P.funcs.toList.all (fun f=>!f.goes)=true) (func:String):P.goesAt .entering func=false:=by
 have h2:P.goesFrom func=false:=by
  unfold Program.goesFrom;cases P.funcNamed func with
  | none=>rfl
  | some f=>exact JF h f
 unfold Program.goesAt;rw [h2];rfl
theorem Vn:false=Rows.consoleBackRow.goesBy Tryz.pinned.checked.prog:=(Ey (P:=Tryz.prog) Nt Rows.consoleBackRow.func).symm
end Go.Proofs.YtjoefbioobdinaaGreatDoor
