/-
  The words that walks use, without the pages' own.
-/
import Derived.Test.YtchmeldlpoimnaaAmTb
import Derived.IntWalk
namespace Go.Proofs.Ytchmeldlpoimnaa
open Go.RowKit Am IntWalk
set_option maxRecDepth 100000

abbrev Bs := List UInt8
noncomputable def cfT (l : List (Nat × Ent)) : Cfg := { E := Env.of Try.prog, K := konOf l, byref := fun _ => false, callOk := cok }
theorem cfT_ok {l : List (Nat × Ent)} (h : EntsOk Try.prog l) : Ok Try.prog (cfT l) := ⟨⟨rfl, konOf_ok h, fun _ h => h⟩, mixed⟩
theorem ent1 {f : Nat} {g : DV → Option (DV × List Bool)} (h : ∀ x y c, g x = some (y, c) → (∀ b ∈ c, b = true) → C Try.prog f [.d x] [] (fun r o => r = .d y ∧ o = [])) : EntOk Try.prog f (e1 g) := e1_ok h
theorem ent2 {f : Nat} {g : DV → DV → Option (DV × List Bool)} (h : ∀ x x2 y c, g x x2 = some (y, c) → (∀ b ∈ c, b = true) → C Try.prog f [.d x, .d x2] [] (fun r o => r = .d y ∧ o = [])) : EntOk Try.prog f (e2 g) := e2_ok h
theorem wrap_succ {i : Nat} (h : i ≤ 1000000) : IntKind.i64.wrap ((i : Int) + 1) = ((i + 1 : Nat) : Int) := by rw [i64_in _ (by omega)]; omega
abbrev Ends (rs : List ResultVar) (v : RV) : SSt → Prop := fun s => ∃ r objs' c, finish (Env.of Try.prog) true 0 rs s.R s.O = some (r, objs', c) ∧ (∀ b ∈ c, b = true) ∧ r = v ∧ objs' = []
end Go.Proofs.Ytchmeldlpoimnaa
