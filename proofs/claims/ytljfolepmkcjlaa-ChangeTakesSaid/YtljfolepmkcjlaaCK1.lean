/-
  number.Take and record.Take for the abstract machine, out of the walks.
-/
import Derived.Test.YtljfolepmkcjlaaCK0
import Derived.Test.YtljfolepmkcjlaaWTk
import Derived.Test.YtljfolepmkcjlaaWRTake
namespace Go.Proofs.Ytljfolepmkcjlaa
open Go.RowKit Plain Am

def numG : DV → Option (DV × List Bool)
  | .str s => some (.tup [.int .u64 ((takeN s).1 : Nat), .int .i64 ((takeN s).2.1 : Nat), .int .i64 ((takeN s).2.2 : Nat)], [decide (s.length ≤ 65536)])
  | _ => none
theorem num_ent : EntOk Try.prog 44 (e1 numG) := by
  refine e1_ok fun x y c hg hc => ?_
  unfold numG at hg
  split at hg
  · rename_i s
    simp only [Option.some.injEq, Prod.mk.injEq] at hg
    obtain ⟨rfl, rfl⟩ := hg
    have h0 : s.length ≤ 65536 := by simpa using hc (decide (s.length ≤ 65536)) (by simp)
    exact C_flat (args := [.str s]) (us := [.string ⟨s.toArray⟩]) rfl rfl fun w => take_any s w h0
  · cases hg
/-- A new row as data. -/
theorem newRow_val {κ : Kap} {w w' : World} {e : TypeId} {v : Value} {l : List Val} (ho : w'.ownsRow w.heap.size e 3 v l.length (rowCells l)) (hk : ∀ b, κ b ≠ .oth → b < w.heap.size) (hs : w.heap.size ≤ w'.heap.size) :
    DR (newImm κ v) w'.heap (.lst 3 (l.map vD) false) v ∧ (∀ b, b < w.heap.size → newImm κ v b = κ b) ∧ (∀ b, newImm κ v b ≠ .oth → b < w'.heap.size) := by
  refine Am.newRow ho (by simp) ?_ ?_ hk hs
  · intro x hx
    obtain ⟨v, _, rfl⟩ := List.mem_map.1 hx
    refine ⟨rfl, fun y hy => ?_⟩
    simp only [vD_cells, List.mem_cons, List.not_mem_nil, or_false] at hy
    rcases hy with rfl | rfl | rfl <;> rfl
  · intro i x j y u hi hj hu
    have hil : i < l.length := by have := (List.getElem?_eq_some_iff.1 hi).1; simpa using this
    have : x = vD l[i] := by simp [hil] at hi; exact hi.symm
    subst this
    obtain ⟨g0, g1, g2⟩ := rowCells_get l i hil
    rw [vD_cells] at hj
    match j, hj with
    | 0, hj => simp at hj; subst hj; rw [Nat.add_zero, g0] at hu; injection hu with hu; subst hu; rfl
    | 1, hj => simp at hj; subst hj; rw [g1] at hu; injection hu with hu; subst hu; rfl
    | 2, hj => simp at hj; subst hj; rw [g2] at hu; injection hu with hu; subst hu; rfl
    | j + 3, hj => simp at hj

def rowD (s : Bs) : List Val := (takeRow s).getD []
def takeG : DV → Option (DV × List Bool)
  | .str s => some (.tup [.lst 3 ((rowD s).map vD) false, .int .i64 (if takeRow s = none then 7 else 0)], [decide (s.length ≤ 1048576)])
  | _ => none
theorem take_ent : EntOk Try.prog 46 (e1 takeG) := by
  refine e1_ok fun x y cs hg hc => ?_
  unfold takeG at hg
  split at hg
  · rename_i s
    simp only [Option.some.injEq, Prod.mk.injEq] at hg
    obtain ⟨rfl, rfl⟩ := hg
    have h0 := hc _ (by simp : decide (s.length ≤ 1048576) ∈ [decide (s.length ≤ 1048576)])
    simp only [decide_eq_true_eq] at h0
    refine C_of_calls (args := [.str s]) fun κ w vs hk hl hr => ?_
    have hl1 : vs.size = 1 := by simpa using hl
    have e1 : vs[0]? = some vs[0] := by simp [show 0 < vs.size by omega]
    have r := (hr 0 _ _ rfl e1).flat rfl
    have : vs = #[.string ⟨s.toArray⟩] := by
      apply Array.ext
      · simpa using hl
      · intro i hi hi2
        simp at hi2; subst hi2
        simpa using r
    subst this
    refine (tk_any s w h0).mono ?_
    rintro e w' ⟨v, rfl, ho, hB⟩
    obtain ⟨p1, p2, p3⟩ := newRow_val ho hk hB.size
    refine ⟨_, newImm κ v, rfl, .tup rfl (fun i x u hx hu => ?_), ⟨hB.size, hB.os, hB.output⟩, fun b hb => ⟨hB.block b hb, p2 b hb⟩, p3⟩
    match i, hx, hu with
    | 0, hx, hu => simp at hx hu; subst hx; subst hu; exact p1
    | 1, hx, hu => simp at hx hu; subst hx; subst hu; exact .int _ _
    | i + 2, hx, hu => simp at hx
  · cases hg
end Go.Proofs.Ytljfolepmkcjlaa
