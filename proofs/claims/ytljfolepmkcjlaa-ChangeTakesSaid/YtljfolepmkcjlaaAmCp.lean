/-
  strings.Compare for the abstract machine, out of the shelf's contract.
-/
import Derived.Test.YtljfolepmkcjlaaAmC
import Derived.Test.YtljfolepmkcjlaaShelf
namespace Go.Proofs.Ytljfolepmkcjlaa
open Go.RowKit Am

def cmpE : DV → DV → Option (DV × List Bool)
  | .str s, .str t => some (.int .i64 (Lib.compareBytes s t), [])
  | _, _ => none
theorem cmp_ent : EntOk Try.prog 61 (e2 cmpE) := by
  refine e2_ok fun x x2 y c hg hc => ?_
  unfold cmpE at hg
  split at hg
  · rename_i s t
    simp only [Option.some.injEq, Prod.mk.injEq] at hg
    obtain ⟨rfl, rfl⟩ := hg
    refine C_flat (args := [.str s, .str t]) (us := [.string ⟨s.toArray⟩, .string ⟨t.toArray⟩]) (v := .int .i64 (Lib.compareBytes s t)) rfl rfl fun w => ?_
    refine (Try.strings_Compare ⟨s.toArray⟩ ⟨t.toArray⟩ w).mono ?_
    rintro e w' ⟨rfl, rfl⟩
    exact ⟨rfl, Below.refl _ _⟩
  · cases hg
end Go.Proofs.Ytljfolepmkcjlaa
