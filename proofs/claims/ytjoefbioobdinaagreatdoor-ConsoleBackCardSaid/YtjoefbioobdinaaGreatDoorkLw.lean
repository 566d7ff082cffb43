/-
  ConsoleBack: the law answers true at every argument, which reads afterwards as it read before.
-/
import Derived.Test.YtjoefbioobdinaaGreatDoorCards
import Derived.Test.YtjoefbioobdinaaGreatDoorkL
import Derived.Test.YtjoefbioobdinaaGreatDoorkLV
import Derived.Test.YtjoefbioobdinaaGreatDoorkJf
set_option linter.unusedSimpArgs false
set_option linter.unusedVariables false
namespace Go.Proofs.YtjoefbioobdinaaGreatDoor
open Go.ChangeShapes Go.WideShapes Go.ChangeAt Go.WideMaps Go.WideElems Go.RowKit Am
open Go.aR hiding cut intOf take split
set_option maxRecDepth 1000000
theorem Np:Tryz.f5.params.toList=[25,9]:=by kernel_rfl
theorem lifted (os:Os) (started:os.Started) (H:Type) (enc:TypeId×Value→H) :
 ReturnsInHanded {} Tryz.checked os 5 .any (fun w args=>(Rows.consoleBackSpec.pre enc Tryz.prog Tryz.f5 [] false w args∧laidMetH Tryz.prog L9 w)∧sizedMet enc Tryz.prog Tryz.f5 (OpenSpec.ofChange Rows.consoleBackSpec) false w args)
  (Rows.consoleBackSpec.post enc Tryz.prog Tryz.f5 false true false false):=by
 refine returnsInHanded_of_change_and (C:=Tryz.checked) (X:=fun w _=>laidMetH Tryz.prog L9 w) (fun _ _ _ hh h=>h.of_heap hh) aaJ started Vh Tryz.func5
  (ChangeSpec.witness_shaped (enc:=enc) (C:=Tryz.checked) (os:=os) (X:=fun w _=>laidMetH Tryz.prog L9 w) false (wP os) #[.agg #[.int .i64 0,.int .i64 0,.int .i64 0,.int .i64 0,.int .u8 0,.string ⟨#[]⟩,.slice none 0 0],.string ⟨#[]⟩] 8 rfl (Nk os _) (aaL os) (X8 os) (aaM os) (Gn os _)) ?_
 intro W base args ds gs before hval hW _ _ hL _
 refine Ld (P:=Tryz.prog) (tb:=4) 8 Ve rfl X7 Tryz.underlying4 (by rw [Np];intro t ht;simp at ht;rcases ht with rfl | rfl<;>exact ⟨by kernel_rfl,Nat.le_of_ble_eq_true (by kernel_rfl)⟩) (by rw [Np];intro t ht;simp at ht;rcases ht with rfl | rfl<;>kernel_rfl)
  (fun ds hd=>?_) (fun xss hx=>?_) W base args ds gs before (PW hL) hval hW
 ·match ds,hd with
  | [d0,d1],_=>rfl
 ·rw [Np] at hx ⊢
  match xss,hx with
  | [x0,x1],hx=>
    obtain ⟨kd0,nd0,n0,a0,x0,tx0,ks0,v0,p0⟩:=Vg hx.1;obtain ⟨l1,rfl,_⟩:=Ty.Hq (t:=9) (by kernel_rfl) hx.2.1;simp only [nJ,PX,PY,uM,cond_true,cond_false,List.headD_cons,List.map_cons,List.map_nil];rw [v0];exact U9 _ _ _ _ _ _ l1 _ false p0.1 p0.2.1 p0.2.2.1 p0.2.2.2.1 p0.2.2.2.2
theorem JC:Rows.ConsoleBackSaid:=
 OpenClaim.holds_of_wide 5 Tryz.f5 rfl rfl rfl rfl rfl rfl rfl ⟨rfl,rfl,rfl,rfl,rfl⟩ rfl rfl rfl rfl rfl Ik Tryz.func5 P6
  Vi Vj
  (fun os started H enc _=>lifted os started H enc)
end Go.Proofs.YtjoefbioobdinaaGreatDoor
