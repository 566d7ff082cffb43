/-
  The table of the node layer's contracts so far.
-/
import Derived.Test.YtchmeldlpoimnaaAmN4
namespace Go.Proofs.Ytchmeldlpoimnaa
open Go.RowKit Am IntWalk
set_option maxRecDepth 100000

def zer (k : Nat) : Bs := List.replicate k 0
def toNod : DV → Nod
  | .agg [.int _ k, .int _ f, .lst _ els _, .str s] => ⟨k, f, els.map toCel, s⟩
  | _ => ⟨0, 0, [], []⟩
def isNod : DV → Bool
  | .agg [.int .u8 _, .int .i64 _, .lst 4 els false, .str _] => els.all isCel
  | _ => false
theorem isNod_spec {x : DV} (h : isNod x = true) : x = nD (toNod x) := by
  unfold isNod at h
  split at h
  · simp only [toNod, nD]; rw [← map_toCel h]
  · cases h
theorem toNod_nD (n : Nod) : toNod (nD n) = n := by simp only [nD, toNod, toCel_map]
theorem isNod_nD (n : Nod) : isNod (nD n) = true := by simp only [nD, isNod, all_isCel]
theorem ent1 {f : Nat} {g : DV → Option (DV × List Bool)} (h : ∀ x y c, g x = some (y, c) → (∀ b ∈ c, b = true) → C Try.prog f [.d x] [] (fun r o => r = .d y ∧ o = [])) : EntOk Try.prog f (e1 g) := e1_ok h
/-- A contract of a page alone, as an entry. -/
theorem nod_ent {f : Nat} {g : Nod → DV} {cs : Nod → List Bool} (h : ∀ n, (∀ b ∈ cs n, b = true) → C Try.prog f [.d (nD n)] [] (fun r o => r = .d (g n) ∧ o = [])) :
    EntOk Try.prog f (e1 fun x => some (g (toNod x), isNod x :: cs (toNod x))) := by
  refine ent1 fun x y c hg hc => ?_
  simp only [Option.some.injEq, Prod.mk.injEq] at hg
  obtain ⟨rfl, rfl⟩ := hg
  have h0 : isNod x = true := hc _ (by simp)
  have := h (toNod x) (fun b hb => hc b (by simp [hb]))
  rw [← isNod_spec h0] at this
  exact this
def mayCs (n : Nod) : List Bool := [decide (n.cells.length ≤ 1000000)]
def byCs (n : Nod) : List Bool := [decide (0 ≤ n.kind ∧ n.kind < 256), decide (n.cells.length ≤ 500000), decide ((byAll n).length ≤ 2000000)]
noncomputable def tnD : List (Nat × Ent) := (63, e1 fun x => some (.bool (mayB (toNod x)), isNod x :: mayCs (toNod x))) :: (64, e1 fun x => some (.str (byAll (toNod x)), isNod x :: byCs (toNod x))) :: tnC
theorem tnD_ok : EntsOk Try.prog tnD :=
  .cons (nod_ent (g := fun n => .bool (mayB n)) (cs := mayCs) fun n h => may_c n (of_decide_eq_true (h _ (.head _))))
    (.cons (nod_ent (g := fun n => .str (byAll n)) (cs := byCs) fun n h => bytes_c n (of_decide_eq_true (h _ (.head _))) (of_decide_eq_true (h _ (.tail _ (.head _)))) (of_decide_eq_true (h _ (.tail _ (.tail _ (.head _)))))) tnC_ok)
end Go.Proofs.Ytchmeldlpoimnaa
