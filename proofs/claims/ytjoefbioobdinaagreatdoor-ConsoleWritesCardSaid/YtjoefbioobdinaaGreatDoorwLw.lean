/-
  ConsoleWrites: the law answers true at every argument, which reads afterwards as it read before.
-/
import Derived.Test.YtjoefbioobdinaaGreatDoorCards
import Derived.Test.YtjoefbioobdinaaGreatDoorwL
import Derived.Test.YtjoefbioobdinaaGreatDoorwLV
import Derived.Test.YtjoefbioobdinaaGreatDoorwJf
set_option linter.unusedSimpArgs false
set_option linter.unusedVariables false
namespace Go.Proofs.YtjoefbioobdinaaGreatDoor
open Go.ChangeShapes Go.WideShapes Go.ChangeAt Go.WideMaps Go.WideElems Go.RowKit Am
open Go.ay hiding cut intOf take split
set_option maxRecDepth 1000000
theorem NK:Tryz.f4.params.toList=[25]:=by kernel_rfl
theorem lifted (os:Os) (started:os.Started) (H:Type) (enc:TypeId×Value→H) :
 ReturnsInHanded {} Tryz.checked os 4 .any (fun w args=>(Rows.consoleWritesSpec.pre enc Tryz.prog Tryz.f4 [] false w args∧laidMetH Tryz.prog L9 w)∧sizedMet enc Tryz.prog Tryz.f4 (OpenSpec.ofChange Rows.consoleWritesSpec) false w args)
  (Rows.consoleWritesSpec.post enc Tryz.prog Tryz.f4 false true false false):=by
 refine returnsInHanded_of_change_and (C:=Tryz.checked) (X:=fun w _=>laidMetH Tryz.prog L9 w) (fun _ _ _ hh h=>h.of_heap hh) abe started VA Tryz.func4
  (ChangeSpec.witness_shaped (enc:=enc) (C:=Tryz.checked) (os:=os) (X:=fun w _=>laidMetH Tryz.prog L9 w) false (wP os) #[.agg #[.int .i64 0,.int .i64 0,.int .i64 0,.int .i64 0,.int .u8 0,.string ⟨#[]⟩,.slice none 0 0]] 8 rfl (NH os _) (abg os) (YC os) (abh os) (GQ os _)) ?_
 intro W base args ds gs before hval hW _ _ hL _
 refine LJ (P:=Tryz.prog) (tb:=4) 8 Vx rfl YB Tryz.underlying4 (by rw [NK];intro t ht;simp at ht;subst ht;exact ⟨by kernel_rfl,Nat.le_of_ble_eq_true (by kernel_rfl)⟩) (by rw [NK];intro t ht;simp at ht;subst ht;kernel_rfl)
  (fun ds hd=>?_) (fun xss hx=>?_) W base args ds gs before (Qk hL) hval hW
 ·match ds,hd with
  | [d0],_=>rfl
 ·rw [NK] at hx ⊢
  match xss,hx with
  | [x0],hx=>
    obtain ⟨kd0,nd0,n0,a0,x0,tx0,ks0,v0,p0⟩:=Vz hx.1;simp only [om,Ql,vk,cond_true,cond_false,List.headD_cons,List.map_cons,List.map_nil];rw [v0];exact NA _ _ _ _ _ _ _ false p0.1 p0.2.1 p0.2.2.1 p0.2.2.2.1 p0.2.2.2.2
theorem JU:Rows.ConsoleWritesSaid:=
 OpenClaim.holds_of_wide 4 Tryz.f4 rfl rfl rfl rfl rfl rfl rfl ⟨rfl,rfl,rfl,rfl,rfl⟩ rfl rfl rfl rfl rfl IQ Tryz.func4 Qo
  VB VD
  (fun os started H enc _=>lifted os started H enc)
end Go.Proofs.YtjoefbioobdinaaGreatDoor
