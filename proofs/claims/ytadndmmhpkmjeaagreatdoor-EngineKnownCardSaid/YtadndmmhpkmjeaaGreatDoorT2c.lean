/-
  The walk of the program's own initialisers (gosem.cut.vars): the memory that they leave.
-/
import Derived.Test.YtadndmmhpkmjeaaGreatDoorNd
import Derived.Test.YtadndmmhpkmjeaaGreatDoorT1c

namespace Go.Proofs.YtadndmmhpkmjeaaGreatDoor
open Go.RowKit Am
set_option maxRecDepth 1000000

noncomputable def vF : Func := (Tryz.prog.funcs[620]?).getD default
noncomputable def vBody : Code := vF.body.getD .skip
noncomputable def vOps (r : Nat) : Array Oper := (regOf r vBody).getD #[]
noncomputable def vO (r k : Nat) : Oper := ((vOps r)[k]?).getD default
noncomputable def strO (k : Nat) : ByteArray := match (cOf (memB[k]?)).getD 0 undef with
  | .string s => s
  | _ => .empty
theorem vFunc : Tryz.prog.funcs[620]? = some vF := by kernel_rfl
theorem vBody_eq : vF.body = some (.seq (.region 0 #[vO 0 0, vO 0 1] false) (.seq (.region 1 #[vO 1 0, vO 1 1] false) (.seq (.region 2 #[vO 2 0, vO 2 1] false) (.seq (.region 3 #[vO 3 0, vO 3 1, vO 3 2, vO 3 3, vO 3 4, vO 3 5, vO 3 6] false) (.seq (.region 4 #[vO 4 0, vO 4 1] false) (.seq (.region 5 #[vO 5 0, vO 5 1] false) (.seq (.region 6 #[vO 6 0, vO 6 1, vO 6 2, vO 6 3, vO 6 4, vO 6 5, vO 6 6, vO 6 7, vO 6 8, vO 6 9, vO 6 10] false) (.seq (.region 7 #[vO 7 0, vO 7 1] false) (.region 8 #[vO 8 0, vO 8 1] false))))))))) := by kernel_rfl

set_option maxHeartbeats 1000000 in
theorem newErr (s : ByteArray) (w : World) : Calls Tryz.prog 465 #[.string s] w fun e w' => e = .returned (.iface 638 (.pointer (some ⟨w.heap.size, 0, none⟩))) ∧ w' = w.alloc (.cells #[.string s] 640) := by
  go_enter Tryz.func465, Tryz.ntmps465
  go_wp2
  go_ret
  exact ⟨rfl, rfl⟩

theorem varsCalls (t : Tape) (d : Nat) (os : Os) (u : Array (Nat × ByteArray)) : Calls Tryz.prog 620 #[] { heap := memA, tape := t, drawn := d, os := os, output := u } fun e w' => ∃ v, e = .returned v ∧ w'.heap = memB := by
  refine calls_of_wp vFunc vBody_eq ?_
  refine wp_seq_reg ?_
  show wpOps Tryz.prog #[vO 0 0, vO 0 1] _ [0, 1] _ _
  refine wpOps_run (o := vO 0 0) rfl (by kernel_rfl) (by kernel_rfl) ?_
  refine wpOps_st (o := vO 0 1) (t := 686) (g := 8) (z := 32) (x := .tmp 0) (c := cOf (memA[8]?)) (ty := 686) rfl (by kernel_rfl) (by kernel_rfl) (by kernel_rfl) (by kernel_rfl) (by kernel_rfl) (by kernel_rfl) ?_
  refine ⟨rfl, ?_⟩
  refine wp_seq_reg ?_
  show wpOps Tryz.prog #[vO 1 0, vO 1 1] _ [0, 1] _ _
  refine wpOps_run (o := vO 1 0) rfl (by kernel_rfl) (by kernel_rfl) ?_
  refine wpOps_st (o := vO 1 1) (t := 199) (g := 9) (z := 64) (x := .tmp 1) (c := cOf (memA[9]?)) (ty := 199) rfl (by kernel_rfl) (by kernel_rfl) (by kernel_rfl) (by kernel_rfl) (by kernel_rfl) (by kernel_rfl) ?_
  refine ⟨rfl, ?_⟩
  refine wp_seq_reg ?_
  show wpOps Tryz.prog #[vO 2 0, vO 2 1] _ [0, 1] _ _
  refine wpOps_run (o := vO 2 0) rfl (by kernel_rfl) (by kernel_rfl) ?_
  refine wpOps_st (o := vO 2 1) (t := 683) (g := 7) (z := 20) (x := .tmp 2) (c := cOf (memA[7]?)) (ty := 683) rfl (by kernel_rfl) (by kernel_rfl) (by kernel_rfl) (by kernel_rfl) (by kernel_rfl) (by kernel_rfl) ?_
  refine ⟨rfl, ?_⟩
  refine wp_seq_reg ?_
  show wpOps Tryz.prog #[vO 3 0, vO 3 1, vO 3 2, vO 3 3, vO 3 4, vO 3 5, vO 3 6] _ [0, 1, 2, 3, 4, 5, 6] _ _
  refine wpOps_run (o := vO 3 0) rfl (by kernel_rfl) (by kernel_rfl) ?_
  refine wpOps_run (o := vO 3 1) rfl (by kernel_rfl) (by kernel_rfl) ?_
  refine wpOps_run (o := vO 3 2) rfl (by kernel_rfl) (by kernel_rfl) ?_
  refine wpOps_run (o := vO 3 3) rfl (by kernel_rfl) (by kernel_rfl) ?_
  refine wpOps_run (o := vO 3 4) rfl (by kernel_rfl) (by kernel_rfl) ?_
  refine wpOps_run (o := vO 3 5) rfl (by kernel_rfl) (by kernel_rfl) ?_
  refine wpOps_st (o := vO 3 6) (t := 667) (g := 6) (z := 32) (x := .tmp 8) (c := cOf (memA[6]?)) (ty := 667) rfl (by kernel_rfl) (by kernel_rfl) (by kernel_rfl) (by kernel_rfl) (by kernel_rfl) (by kernel_rfl) ?_
  refine ⟨rfl, ?_⟩
  refine wp_seq_reg ?_
  show wpOps Tryz.prog #[vO 4 0, vO 4 1] _ [0, 1] _ _
  refine wpOps_call (o := vO 4 0) (f := 465) (args := #[.string (strO 16)]) rfl (by kernel_rfl) (by kernel_rfl) (newErr (strO 16) _) ?_
  refine wpOps_st (o := vO 4 1) (t := 283) (g := 4) (z := 1) (x := .tmp 9) (c := cOf (memA[4]?)) (ty := 283) rfl (by kernel_rfl) (by kernel_rfl) (by kernel_rfl) (by kernel_rfl) (by kernel_rfl) (by kernel_rfl) ?_
  refine ⟨rfl, ?_⟩
  refine wp_seq_reg ?_
  show wpOps Tryz.prog #[vO 5 0, vO 5 1] _ [0, 1] _ _
  refine wpOps_call (o := vO 5 0) (f := 465) (args := #[.string (strO 17)]) rfl (by kernel_rfl) (by kernel_rfl) (newErr (strO 17) _) ?_
  refine wpOps_st (o := vO 5 1) (t := 283) (g := 3) (z := 1) (x := .tmp 10) (c := cOf (memA[3]?)) (ty := 283) rfl (by kernel_rfl) (by kernel_rfl) (by kernel_rfl) (by kernel_rfl) (by kernel_rfl) (by kernel_rfl) ?_
  refine ⟨rfl, ?_⟩
  refine wp_seq_reg ?_
  show wpOps Tryz.prog #[vO 6 0, vO 6 1, vO 6 2, vO 6 3, vO 6 4, vO 6 5, vO 6 6, vO 6 7, vO 6 8, vO 6 9, vO 6 10] _ [0, 1, 2, 3, 4, 5, 6, 7, 8, 9, 10] _ _
  refine wpOps_run (o := vO 6 0) rfl (by kernel_rfl) (by kernel_rfl) ?_
  refine wpOps_run (o := vO 6 1) rfl (by kernel_rfl) (by kernel_rfl) ?_
  refine wpOps_run (o := vO 6 2) rfl (by kernel_rfl) (by kernel_rfl) ?_
  refine wpOps_run (o := vO 6 3) rfl (by kernel_rfl) (by kernel_rfl) ?_
  refine wpOps_run (o := vO 6 4) rfl (by kernel_rfl) (by kernel_rfl) ?_
  refine wpOps_run (o := vO 6 5) rfl (by kernel_rfl) (by kernel_rfl) ?_
  refine wpOps_run (o := vO 6 6) rfl (by kernel_rfl) (by kernel_rfl) ?_
  refine wpOps_run (o := vO 6 7) rfl (by kernel_rfl) (by kernel_rfl) ?_
  refine wpOps_run (o := vO 6 8) rfl (by kernel_rfl) (by kernel_rfl) ?_
  refine wpOps_run (o := vO 6 9) rfl (by kernel_rfl) (by kernel_rfl) ?_
  refine wpOps_st (o := vO 6 10) (t := 576) (g := 10) (z := 1) (x := .tmp 20) (c := cOf (memA[10]?)) (ty := 576) rfl (by kernel_rfl) (by kernel_rfl) (by kernel_rfl) (by kernel_rfl) (by kernel_rfl) (by kernel_rfl) ?_
  refine ⟨rfl, ?_⟩
  refine wp_seq_reg ?_
  show wpOps Tryz.prog #[vO 7 0, vO 7 1] _ [0, 1] _ _
  refine wpOps_run (o := vO 7 0) rfl (by kernel_rfl) (by kernel_rfl) ?_
  refine wpOps_st (o := vO 7 1) (t := 576) (g := 2) (z := 1) (x := .tmp 21) (c := cOf (memA[2]?)) (ty := 576) rfl (by kernel_rfl) (by kernel_rfl) (by kernel_rfl) (by kernel_rfl) (by kernel_rfl) (by kernel_rfl) ?_
  refine ⟨rfl, ?_⟩
  refine wp_region ?_
  show wpOps Tryz.prog #[vO 8 0, vO 8 1] _ [0, 1] _ _
  refine wpOps_run (o := vO 8 0) rfl (by kernel_rfl) (by kernel_rfl) ?_
  refine wpOps_st (o := vO 8 1) (t := 491) (g := 1) (z := 256) (x := .tmp 22) (c := cOf (memA[1]?)) (ty := 491) rfl (by kernel_rfl) (by kernel_rfl) (by kernel_rfl) (by kernel_rfl) (by kernel_rfl) (by kernel_rfl) ?_
  exact ⟨by kernel_rfl, .tuple #[], by kernel_rfl, .tuple #[], rfl, by kernel_rfl⟩
end Go.Proofs.YtadndmmhpkmjeaaGreatDoor
