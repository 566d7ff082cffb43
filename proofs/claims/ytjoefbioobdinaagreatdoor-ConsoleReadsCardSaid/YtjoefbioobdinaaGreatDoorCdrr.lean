/-
  ConsoleReads: the law answers true at every argument, whatever the variables' start, as the program's own text lays them. No condition but the row's own cells (laid, tied to the program's text).
-/
import Derived.Test.YtjoefbioobdinaaGreatDoorrLw
import Derived.Test.YtjoefbioobdinaaGreatDoorrT8
import Derived.Test.YtjoefbioobdinaaGreatDoorrCa
import Derived.SevenTiedAt
namespace Go.Proofs.YtjoefbioobdinaaGreatDoor
open Go
set_option maxRecDepth 1000000
theorem OB:Rows.consoleReadsRow.laidByTextAt .later Tryz.pinned [.data,.data,.data,.sentinel,.sentinel,.pinned,.data,.data,.listed] true:=
 OpenClaim.laidByTextAt_pinned rfl rfl abS rfl rfl rfl rfl (fun y hy _e=>by
  simp only [Rows.consoleReadsRow,List.zip_cons_cons,List.zip_nil_right,List.mem_cons,List.mem_nil_iff,or_false] at hy;rcases hy with rfl | rfl | rfl | rfl | rfl | rfl | rfl | rfl | rfl
  ·cases _e
  ·cases _e
  ·cases _e
  ·cases _e
  ·cases _e
  ·exact ⟨Kw,by kernel_rfl⟩
  ·cases _e
  ·cases _e
  ·cases _e) Ze
theorem Zf:Tryz.f3.params.toList=[9]:=by kernel_rfl
theorem consolereads_holds:Rows.ConsoleReadsCardSaid:=
 Claim7.holds_tied_plain_at .later [] [.data,.data,.data,.sentinel,.sentinel,.pinned,.data,.data,.listed] true (true,"56ccc94b269147e92fadfced6e5bcdee9cd36882ce7faca6448babe57942845f") true
  Ku (fun _ h=>by cases h) Wx (fun _ h=>by cases h) OB rfl ⟨rfl,rfl⟩ Wy rfl
  (fun f fn hf hfn=>by
    obtain rfl:f=3:=Option.some.inj (Jo.symm.trans hf) |>.symm;obtain rfl:fn=Tryz.f3:=(Option.some.inj (Tryz.func3.symm.trans hfn)).symm
    exact ⟨Wz,fun j t ht=>by
     have hm:t∈[9]:=by rw [←Zf];simpa using Array.mem_of_getElem? ht
     have hall:([9].all fun u=>!Tryz.prog.wantsStandIn u)=true:=by kernel_rfl
     exact (show Tryz.prog.wantsStandIn t=false by simpa using List.all_eq_true.1 hall t hm)⟩)
  WA
end Go.Proofs.YtjoefbioobdinaaGreatDoor
