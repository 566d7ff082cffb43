/-
  What closed runs lean on: the contracts of strings.Builder, strings.Compare; all else is run.
-/
import Derived.Test.YtljfolepmkcjlaaAmBd
import Derived.Test.YtljfolepmkcjlaaAmCp
namespace Go.Proofs.Ytljfolepmkcjlaa
open Go.RowKit Am
set_option maxRecDepth 100000

noncomputable def tb : List (Nat × Ent) := [(75, copyE), (56, strE), (61, e2 cmpE)]
theorem tb_ok : EntsOk Try.prog tb := .cons copy_ent (.cons str_ent (.cons cmp_ent .nil))
def brf : Nat → Bool := fun f => ![56, 61].any (Nat.beq f)

theorem mixed : Try.prog.follows .mixedOrders = true := by kernel_rfl
noncomputable abbrev cok : Nat → Bool := fun f => callOk Try.prog f
def isTrue : Option (RV × List PObj × List Bool) → Bool
  | some (.d (.bool true), [], c) => c.all id
  | _ => false
theorem of_isTrue {K : Kon} (hk : KSound Try.prog K) {f : Nat} {args : List RV} (h : isTrue (K f args []) = true) : C Try.prog f args [] (fun r o => r = .d (.bool true) ∧ o = []) := by
  unfold isTrue at h
  split at h
  · rename_i c e
    exact hk.use c e h
  · cases h
theorem lay_ok (l : List (Nat × Ent)) (h : EntsOk Try.prog l) (b : Nat → Bool) (n k d : Nat) : KSound Try.prog (layer Try.prog (konOf l) b cok n k d) := layer_ok mixed (konOf_ok h) (fun _ h => h) d
theorem own : ownKnob Try.prog.godebug = none := by kernel_rfl
theorem laid : laidOutB Try.prog = true := by kernel_rfl
end Go.Proofs.Ytljfolepmkcjlaa
