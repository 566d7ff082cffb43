/-
  Texts that the claim leans on, one behind the other: N9, N8.
-/
import Derived.Test.YtiiookmnofhlmaaGreatDoorNa
import Derived.Test.YtiiookmnofhlmaaGreatDoorNd
import Derived.Test.YtiiookmnofhlmaaGreatDoorN4c
import Derived.Test.YtiiookmnofhlmaaGreatDoorN5c
import Derived.Shelf.Strconv.Itoa4
import Derived.Below

/-
  eval.wide's add for the closed machine: math/bits.Add64 is the model's own entry.
-/
namespace Go.Proofs.YtiiookmnofhlmaaGreatDoor
open Go.RowKit Am
set_option maxRecDepth 100000

def digN : Nat → Nat → Nat
  | 0, _ => 0
  | n + 1, u => bif Nat.ble 10 u then digN n (u / 10) + 1 else 1
def digE : DV → Option (DV × List Bool)
  | .int .u64 (.ofNat u) => some (.int .i64 (digN 20 u), [decide (1 ≤ u), decide (u < 18446744073709551616)])
  | _ => none

theorem digN_is : ∀ n u, u < 10 ^ n → 1 ≤ n → digN n u = Lib.nDigits u
  | 0, u, _, h => by omega
  | n + 1, u, hu, _ => by
    unfold digN
    by_cases h : 10 ≤ u
    · rw [Nat.ble_eq_true_of_le h, Lib.nDigits_big (by omega)]
      simp only [cond_true]
      rw [digN_is n (u / 10) (by rw [Nat.pow_succ] at hu; omega) (by
        cases n with
        | zero => simp at hu; omega
        | succ n => omega)]
    · have hb : Nat.ble 10 u = false := by cases hh : Nat.ble 10 u; rfl; exact absurd (Nat.le_of_ble_eq_true hh) h
      rw [hb, Lib.nDigits_small (by omega)]
      rfl
theorem dig_ent : EntOk Tryz.prog 542 (e1 digE) := by
  refine e1_ok fun x y c hg hc => ?_
  unfold digE at hg
  split at hg
  · rename_i u
    simp only [Option.some.injEq, Prod.mk.injEq] at hg
    obtain ⟨rfl, rfl⟩ := hg
    have h1 : 1 ≤ u := by simpa using hc (decide (1 ≤ u)) (by simp)
    have h2 : u < 18446744073709551616 := by simpa using hc (decide (u < 18446744073709551616)) (by simp)
    intro κ φ w vs g1 g2 g3 g4
    obtain ⟨v, rfl, hv⟩ := arg1 g3 g4
    cases hv with
    | d hd =>
    cases hd
    refine (Tryz.internal_strconv_numDigits u h1 h2 w (pow_is g2)).mono ?_
    rintro e w' ⟨rfl, rfl⟩
    rw [digN_is 20 u (by omega) (by omega)]
    exact ⟨_, _, _, κ, φ, rfl, ⟨rfl, rfl⟩, .d (.int _ _), g1, g2, Nat.le_refl _, Fr.refl _ _, Kp.refl _ _⟩
  · cases hg

end Go.Proofs.YtiiookmnofhlmaaGreatDoor

/-
  The closed machine of this program: the contracts of Go's library that stand under all runs.
-/
namespace Go.Proofs.YtiiookmnofhlmaaGreatDoor
open Go.RowKit Am

noncomputable def tbB : List (Nat × Ent) := [(507, fldE),
  (121, e2 cmpE),
  (406, e2 idxE),
  (199, e2 cntE),
  (141, e2 repE),
  (104, copyE),
  (59, strE),
  (122, cloE),
  (315, growE),
  (337, insECell),
  (151, insETable),
  (157, insEIndex),
  (542, e1 digE)]
theorem tbB_ok : EntsOk Tryz.prog tbB := .cons fld_ent (.cons cmp_ent (.cons idx_ent (.cons cnt_ent (.cons rep_ent (.cons copy_ent (.cons str_ent (.cons clo_ent (.cons grow_ent (.cons ins_entCell (.cons ins_entTable (.cons ins_entIndex (.cons dig_ent .nil))))))))))))
noncomputable def baseK : Kon := konOf tbB
theorem baseK_ok : KSound Tryz.prog (rowsK baseK []) := konOf_ok tbB_ok
end Go.Proofs.YtiiookmnofhlmaaGreatDoor
