/-
  ConsoleReads: the law answers true at every argument, which reads afterwards as it read before.
-/
import Derived.Test.YtjoefbioobdinaaGreatDoorCards
import Derived.Test.YtjoefbioobdinaaGreatDoorrL
import Derived.Test.YtjoefbioobdinaaGreatDoorrLV
import Derived.Test.YtjoefbioobdinaaGreatDoorrJf
set_option linter.unusedSimpArgs false
set_option linter.unusedVariables false
namespace Go.Proofs.YtjoefbioobdinaaGreatDoor
open Go.ChangeShapes Go.WideShapes Go.ChangeAt Go.WideMaps Go.WideElems Go.RowKit Am
open Go.aQ hiding cut intOf take split
set_option maxRecDepth 1000000
theorem Ow:Tryz.f3.params.toList=[9]:=by kernel_rfl
theorem lifted (os:Os) (started:os.Started) (H:Type) (enc:TypeId×Value→H) :
 ReturnsInHanded {} Tryz.checked os 3 .any (fun w args=>(Rows.consoleReadsSpec.pre enc Tryz.prog Tryz.f3 [] false w args∧laidMetH Tryz.prog L9 w)∧sizedMet enc Tryz.prog Tryz.f3 (OpenSpec.ofChange Rows.consoleReadsSpec) false w args)
  (Rows.consoleReadsSpec.post enc Tryz.prog Tryz.f3 false true false false):=by
 refine returnsInHanded_of_change_and (C:=Tryz.checked) (X:=fun w _=>laidMetH Tryz.prog L9 w) (fun _ _ _ hh h=>h.of_heap hh) abN started Wu Tryz.func3
  (ChangeSpec.witness_shaped (enc:=enc) (C:=Tryz.checked) (os:=os) (X:=fun w _=>laidMetH Tryz.prog L9 w) false (wP os) #[.string ⟨#[]⟩] 8 rfl (Oq os _) (abP os) (Y9 os) (abQ os) (Ib os _)) ?_
 intro W base args ds gs before hval hW _ _ hL _
 refine Mr (P:=Tryz.prog) (tb:=4) 8 Ws rfl Y8 Tryz.underlying4 (by rw [Ow];intro t ht;simp at ht;subst ht;exact ⟨by kernel_rfl,Nat.le_of_ble_eq_true (by kernel_rfl)⟩) (by rw [Ow];intro t ht;simp at ht;subst ht;kernel_rfl)
  (fun ds hd=>?_) (fun xss hx=>?_) W base args ds gs before (QI hL) hval hW
 ·match ds,hd with
  | [d0],_=>rfl
 ·rw [Ow] at hx ⊢
  match xss,hx with
  | [x0],hx=>
    obtain ⟨l0,rfl,_⟩:=Ty.PO (t:=9) (by kernel_rfl) hx.1;simp only [ow,QJ,yT,cond_true,cond_false,List.headD_cons,List.map_cons,List.map_nil];exact QH l0
theorem Ku:Rows.ConsoleReadsSaid:=
 OpenClaim.holds_of_wide 3 Tryz.f3 rfl rfl rfl rfl rfl rfl rfl ⟨rfl,rfl,rfl,rfl,rfl⟩ rfl rfl rfl rfl rfl Jo Tryz.func3 QM
  Wv Ww
  (fun os started H enc _=>lifted os started H enc)
end Go.Proofs.YtjoefbioobdinaaGreatDoor
