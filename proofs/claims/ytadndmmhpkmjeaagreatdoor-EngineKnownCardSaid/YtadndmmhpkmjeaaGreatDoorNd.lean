/-
  Texts that the claim leans on, one behind the other: N6, N7.
-/
import Derived.Test.YtadndmmhpkmjeaaGreatDoorAmE
import Derived.Test.YtadndmmhpkmjeaaGreatDoorNa

/-
  The closed machine of this program: pager.Resize's range over a map by a hook; a run is a contract.
-/
namespace Go.Proofs.YtadndmmhpkmjeaaGreatDoor
open Go.RowKit Am
set_option maxRecDepth 1000000

noncomputable def rzBody : Code := ((Tryz.prog.funcs[131]?).bind (·.body)).getD .skip

def regOf (r : Nat) : Code → Option (Array Oper)
  | .region i ops _ => bif Nat.beq i r then some ops else none
  | .seq x y => match regOf r x with
    | some a => some a
    | none => regOf r y
  | .cond _ x y => match regOf r x with
    | some a => some a
    | none => regOf r y
  | .block _ x => regOf r x
  | .loop x => regOf r x
  | .scope x => regOf r x
  | _ => none

def thenOf (t : Nat) : Code → Option Code
  | .cond (.tmp u) x y => bif Nat.beq u t then some x else match thenOf t x with
    | some a => some a
    | none => thenOf t y
  | .seq x y => match thenOf t x with
    | some a => some a
    | none => thenOf t y
  | .block _ x => thenOf t x
  | .loop x => thenOf t x
  | .scope x => thenOf t x
  | _ => none

noncomputable def rzOps (r : Nat) : Array Oper := (regOf r rzBody).getD #[]
noncomputable def rzOp (r k : Nat) : Oper := ((rzOps r)[k]?).getD default
noncomputable def rzC : RgCode := ⟨7, rzOps 7, 0, 1, 8, rzOps 8, 9, rzOps 9, (thenOf 33 rzBody).getD .skip⟩
def rzG : RgOps := ⟨26, 27, 28, 29, 30, 6, 31, 32, 33, 1⟩
noncomputable def rzQ : RgPiece := ⟨6, rzOps 6, [rzOp 6 0, rzOp 6 1, rzOp 6 2, rzOp 6 3, rzOp 6 4, rzOp 6 5, rzOp 6 6], 25, 121, rzC, rzG⟩

theorem rz_ok : RgPieceOk Tryz.prog 71 rzQ where
  h6 := ⟨rzOp 6 7, by kernel_rfl, by kernel_rfl, by kernel_rfl, by kernel_rfl⟩
  hg := by kernel_rfl
  hu := ⟨3, 9, by kernel_rfl⟩
  hc :=
    { o7 := ⟨rzOp 7 0, rzOp 7 1, by kernel_rfl, by kernel_rfl, by kernel_rfl, by kernel_rfl, by kernel_rfl, by kernel_rfl, by kernel_rfl⟩
      o8 := ⟨rzOp 8 0, rzOp 8 1, rzOp 8 2, by kernel_rfl, by kernel_rfl, by kernel_rfl, by kernel_rfl, by kernel_rfl, by kernel_rfl, by kernel_rfl, by kernel_rfl, by kernel_rfl, by kernel_rfl⟩
      o9 := ⟨rzOp 9 0, rzOp 9 1, rzOp 9 2, 3, 3, by kernel_rfl, by kernel_rfl, by kernel_rfl, by kernel_rfl, by kernel_rfl, by kernel_rfl, by kernel_rfl, by kernel_rfl, by kernel_rfl, by kernel_rfl⟩
      lt := by decide
      pgw := by decide
      nodup := by decide }

theorem rz_piece : (pieces rzBody).filter (fun z => isReg 6 z.1) = [(.region rzQ.r6 rzQ.ops6 false, .block rzQ.c.id0 (.loop (rzQ.c.body rzQ.g)))] := by kernel_rfl
theorem rz_tmps : (Tryz.prog.funcs[131]?).map (fun f => Nat.beq f.ntmps 71) = some true := by kernel_rfl

noncomputable def fnT : Nat → Option Func := fun g => Tryz.prog.funcs[g]?
theorem mixT : Tryz.prog.follows .mixedOrders = true := by kernel_rfl

end Go.Proofs.YtadndmmhpkmjeaaGreatDoor

/-
  The closed machine of this program: a run that agrees with a row is the row's contract.
-/
namespace Go.Proofs.YtadndmmhpkmjeaaGreatDoor
open Go.RowKit Am
set_option maxRecDepth 1000000

noncomputable def cfK (K : Kon) : Cfg := { E := Env.of Tryz.prog, K := K, byref := fun _ => true, callOk := fun f => callOk Tryz.prog f, vm := true, diff := true }
noncomputable def hooksK (K : Kon) : Nat → Hook := fun g => bif Nat.beq g 131 then rgHook (cfK K) rzQ else fun _ _ => none

theorem cfK_ok {K : Kon} (h : KSound Tryz.prog K) : CfOk Tryz.prog (cfK K) := ⟨rfl, h, fun _ h => h⟩

theorem hooksK_ok {K : Kon} (h : KSound Tryz.prog K) : ∀ g f body, fnT g = some f → f.body = some body → ∀ fin, HookOk Tryz.prog f.ntmps 1048576 fin body (hooksK K g) := by
  intro g f body hf hb fin
  unfold hooksK
  cases hg : Nat.beq g 131 with
  | false => intro x y f hx; cases hx
  | true =>
    have := nbE hg; subst this
    have hf' : Tryz.prog.funcs[131]? = some f := hf
    have hn : f.ntmps = 71 := by
      have := rz_tmps
      rw [hf'] at this
      exact nbE (by simpa using this)
    have hbd : body = rzBody := by
      unfold rzBody
      rw [hf']
      simp [hb]
    subst hbd
    rw [hn]
    exact rgHook_ok (cfK_ok h) (by decide) rz_ok rz_piece

/-- The functions that defer calls. -/
noncomputable def defsL : List Nat := []
noncomputable def defsK (g : Nat) : Bool := List.any defsL (Nat.beq g)

/-- Does the run agree with the row? -/
noncomputable def okRow (K : Kon) (mask : Nat) (q : Row) : Bool := eqRes (konV (callOf (fMachD defsK (hooksK K) fnT (cfK K) (hasM mask) 100000 60)) q.g q.args q.objs) q.r q.os

theorem row_c {K : Kon} (hK : KSound Tryz.prog K) {mask : Nat} {q : Row} (h : okRow K mask q = true) : q.C Tryz.prog :=
  C_of_frunD (defs := defsK) (cfK_ok hK) mixT (hooksK_ok hK) (fun _ _ h => h) (hasM mask) 100000 60 (eqRes_spec h)
end Go.Proofs.YtadndmmhpkmjeaaGreatDoor
