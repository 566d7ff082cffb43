/-
  The record law's table of contracts, and its small functions.
-/
import Derived.Test.YtpigindbfkhgdaaAmK
namespace Go.Proofs.Ytpigindbfkhgdaa
open Go.RowKit Plain Am

noncomputable def tab0 : List (Nat × Ent) := [(10, e1 (gRow putD fun _ => true)), (11, e1 (gRow putD fun _ => true)),
  (14, e1 (gRow (fun l => .int .i64 (sizeRow l : Nat)) fun _ => true)), (12, e1 (gRow (fun l => .int .i64 (chkRow l)) fun _ => true)),
  (13, e1 (gRow (fun l => .str (allL l)) fun l => decide (l.length ≤ 16) && l.all fun v => chk v == 0)),
  (17, e2 sameG), (15, e1 takeG)]
theorem tab0_ok : EntsOk Try.prog tab0 := .cons put_ent (.cons rput_ent (.cons size_ent (.cons rcheck_ent (.cons rall_ent (.cons same_ent (.cons take_ent .nil))))))

theorem mixed : Try.prog.follows .mixedOrders = true := by kernel_rfl
noncomputable abbrev cok : Nat → Bool := fun f => callOk Try.prog f
noncomputable def cfT (l : List (Nat × Ent)) : Cfg := { E := Env.of Try.prog, K := konOf l, byref := fun _ => false, callOk := cok }
theorem cfT_ok {l : List (Nat × Ent)} (h : EntsOk Try.prog l) : Ok Try.prog (cfT l) := ⟨⟨rfl, konOf_ok h, fun _ h => h⟩, mixed⟩

set_option maxRecDepth 100000
def isTrue : Option (RV × List PObj × List Bool) → Bool
  | some (.d (.bool true), [], c) => c.all id
  | _ => false
theorem of_isTrue {K : Kon} (hk : KSound Try.prog K) {f : Nat} {args : List RV} (h : isTrue (K f args []) = true) : C Try.prog f args [] (fun r o => r = .d (.bool true) ∧ o = []) := by
  unfold isTrue at h
  split at h
  · rename_i c e
    exact hk.use c e h
  · cases h

theorem works_c : C Try.prog 8 [] [] (fun r o => r = .d (.bool true) ∧ o = []) :=
  of_isTrue (layer_ok mixed (konOf_ok tab0_ok) (fun _ h => h) 3) (by kernel_rfl : isTrue (layer Try.prog (konOf tab0) (fun _ => false) cok 3000 300 3 8 [] []) = true)
end Go.Proofs.Ytpigindbfkhgdaa
