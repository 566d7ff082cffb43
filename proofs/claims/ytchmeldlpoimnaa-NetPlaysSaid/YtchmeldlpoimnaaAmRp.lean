/-
  strings.Repeat for the abstract machine, out of the shelf's contract.
-/
import Derived.Test.YtchmeldlpoimnaaAmC
import Derived.Test.YtchmeldlpoimnaaShelf
namespace Go.Proofs.Ytchmeldlpoimnaa
open Go.RowKit Am

def repE : DV → DV → Option (DV × List Bool)
  | .str s, .int .i64 c => some (.str (Lib.repeatL s c.toNat), [decide (0 ≤ c), decide (c ≤ 1099511627776), decide (s.length * c.toNat ≤ 140737488355328)])
  | _, _ => none
theorem rep_ent : EntOk Try.prog 25 (e2 repE) := by
  refine e2_ok fun x x2 y c hg hc => ?_
  unfold repE at hg
  split at hg
  · rename_i s n
    simp only [Option.some.injEq, Prod.mk.injEq] at hg
    obtain ⟨rfl, rfl⟩ := hg
    have h0 : 0 ≤ n := by simpa using hc (decide (0 ≤ n)) (by simp)
    have h1 : n ≤ 1099511627776 := by simpa using hc (decide (n ≤ 1099511627776)) (by simp)
    have h2 : s.length * n.toNat ≤ 140737488355328 := by simpa using hc (decide (s.length * n.toNat ≤ 140737488355328)) (by simp)
    refine C_flat (args := [.str s, .int .i64 n]) (us := [.string ⟨s.toArray⟩, .int .i64 n]) (v := .string ⟨(Lib.repeatL s n.toNat).toArray⟩) rfl rfl fun w => ?_
    have := Try.strings_Repeat ⟨s.toArray⟩ n.toNat w (by omega) h2
    rw [Int.toNat_of_nonneg h0] at this
    exact this
  · cases hg
end Go.Proofs.Ytchmeldlpoimnaa
