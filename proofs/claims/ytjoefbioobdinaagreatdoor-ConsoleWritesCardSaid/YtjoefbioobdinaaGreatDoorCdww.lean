/-
  ConsoleWrites: the law answers true at every argument, whatever the variables' start, as the program's own text lays them. No condition but the row's own cells (laid, tied to the program's text).
-/
import Derived.Test.YtjoefbioobdinaaGreatDoorwLw
import Derived.Test.YtjoefbioobdinaaGreatDoorwT8
import Derived.Test.YtjoefbioobdinaaGreatDoorwCa
import Derived.SevenTiedAt
namespace Go.Proofs.YtjoefbioobdinaaGreatDoor
open Go
set_option maxRecDepth 1000000
theorem NS:Rows.consoleWritesRow.laidByTextAt .later Tryz.pinned [.data,.data,.data,.sentinel,.sentinel,.pinned,.data,.data,.listed] true:=
 OpenClaim.laidByTextAt_pinned rfl rfl abk rfl rfl rfl rfl (fun y hy _e=>by
  simp only [Rows.consoleWritesRow,List.zip_cons_cons,List.zip_nil_right,List.mem_cons,List.mem_nil_iff,or_false] at hy;rcases hy with rfl | rfl | rfl | rfl | rfl | rfl | rfl | rfl | rfl
  ·cases _e
  ·cases _e
  ·cases _e
  ·cases _e
  ·cases _e
  ·exact ⟨JW,by kernel_rfl⟩
  ·cases _e
  ·cases _e
  ·cases _e) YH
theorem YI:Tryz.f4.params.toList=[25]:=by kernel_rfl
theorem consolewrites_holds:Rows.ConsoleWritesCardSaid:=
 Claim7.holds_tied_plain_at .later [] [.data,.data,.data,.sentinel,.sentinel,.pinned,.data,.data,.listed] true (true,"56ccc94b269147e92fadfced6e5bcdee9cd36882ce7faca6448babe57942845f") true
  JU (fun _ h=>by cases h) VE (fun _ h=>by cases h) NS rfl ⟨rfl,rfl⟩ VF rfl
  (fun f fn hf hfn=>by
    obtain rfl:f=4:=Option.some.inj (IQ.symm.trans hf) |>.symm;obtain rfl:fn=Tryz.f4:=(Option.some.inj (Tryz.func4.symm.trans hfn)).symm
    exact ⟨VG,fun j t ht=>by
     have hm:t∈[25]:=by rw [←YI];simpa using Array.mem_of_getElem? ht
     have hall:([25].all fun u=>!Tryz.prog.wantsStandIn u)=true:=by kernel_rfl
     exact (show Tryz.prog.wantsStandIn t=false by simpa using List.all_eq_true.1 hall t hm)⟩)
  VH
end Go.Proofs.YtjoefbioobdinaaGreatDoor
