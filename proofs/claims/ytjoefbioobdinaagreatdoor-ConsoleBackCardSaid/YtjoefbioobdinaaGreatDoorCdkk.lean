/-
  ConsoleBack: the law answers true at every argument, whatever the variables' start, as the program's own text lays them. No condition but the row's own cells (laid, tied to the program's text).
-/
import Derived.Test.YtjoefbioobdinaaGreatDoorkLw
import Derived.Test.YtjoefbioobdinaaGreatDoorkT8
import Derived.Test.YtjoefbioobdinaaGreatDoorkCa
import Derived.SevenTiedAt
namespace Go.Proofs.YtjoefbioobdinaaGreatDoor
open Go
set_option maxRecDepth 1000000
theorem Nu:Rows.consoleBackRow.laidByTextAt .later Tryz.pinned [.data,.data,.data,.sentinel,.sentinel,.pinned,.data,.data,.listed] true:=
 OpenClaim.laidByTextAt_pinned rfl rfl aaO rfl rfl rfl rfl (fun y hy _e=>by
  simp only [Rows.consoleBackRow,List.zip_cons_cons,List.zip_nil_right,List.mem_cons,List.mem_nil_iff,or_false] at hy;rcases hy with rfl | rfl | rfl | rfl | rfl | rfl | rfl | rfl | rfl
  ·cases _e
  ·cases _e
  ·cases _e
  ·cases _e
  ·cases _e
  ·exact ⟨JE,by kernel_rfl⟩
  ·cases _e
  ·cases _e
  ·cases _e) Yd
theorem Ye:Tryz.f5.params.toList=[25,9]:=by kernel_rfl
theorem consoleback_holds:Rows.ConsoleBackCardSaid:=
 Claim7.holds_tied_plain_at .later [] [.data,.data,.data,.sentinel,.sentinel,.pinned,.data,.data,.listed] true (true,"56ccc94b269147e92fadfced6e5bcdee9cd36882ce7faca6448babe57942845f") true
  JC (fun _ h=>by cases h) Vk (fun _ h=>by cases h) Nu rfl ⟨rfl,rfl⟩ Vl rfl
  (fun f fn hf hfn=>by
    obtain rfl:f=5:=Option.some.inj (Ik.symm.trans hf) |>.symm;obtain rfl:fn=Tryz.f5:=(Option.some.inj (Tryz.func5.symm.trans hfn)).symm
    exact ⟨Vm,fun j t ht=>by
     have hm:t∈[25,9]:=by rw [←Ye];simpa using Array.mem_of_getElem? ht
     have hall:([25,9].all fun u=>!Tryz.prog.wantsStandIn u)=true:=by kernel_rfl
     exact (show Tryz.prog.wantsStandIn t=false by simpa using List.all_eq_true.1 hall t hm)⟩)
  Vn
end Go.Proofs.YtjoefbioobdinaaGreatDoor
