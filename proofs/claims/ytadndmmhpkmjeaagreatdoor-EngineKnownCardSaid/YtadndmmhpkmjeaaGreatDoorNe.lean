/-
  Texts that the claim leans on, one behind the other: N9, N8.
-/
import Derived.Test.YtadndmmhpkmjeaaGreatDoorNa
import Derived.Test.YtadndmmhpkmjeaaGreatDoorNd
import Derived.Test.YtadndmmhpkmjeaaGreatDoorN4c
import Derived.Test.YtadndmmhpkmjeaaGreatDoorN5c
import Derived.Test.YtadndmmhpkmjeaaGreatDoorN10c
import Derived.Shelf.Spec.BitsCarry
import Derived.Shelf.Strconv.Itoa4
import Derived.Laws.Bits64
import Derived.Below

/-
  eval.wide's add for the closed machine: math/bits.Add64 is the model's own entry.
-/
namespace Go.Proofs.YtadndmmhpkmjeaaGreatDoor
open Go.RowKit Am
set_option maxRecDepth 100000

def addHi (h x : Int) (l : Nat) : Int := wrap64 (wrap64 (h + x / 9223372036854775808) + ((l : Int) + max (x % 18446744073709551616) 0) / 18446744073709551616)
def addLo (x : Int) (l : Nat) : Nat := (l + (x % 18446744073709551616).toNat) % 18446744073709551616
def addE : DV → DV → Option (DV × List Bool)
  | .agg [.int .i64 h, .int .u64 (.ofNat l)], .int .i64 x => some (.agg [.int .i64 (addHi h x l), .int .u64 (addLo x l)], [decide (l < 18446744073709551616), decide (-9223372036854775808 ≤ x), decide (x < 9223372036854775808)])
  | _, _ => none
def digN : Nat → Nat → Nat
  | 0, _ => 0
  | n + 1, u => bif Nat.ble 10 u then digN n (u / 10) + 1 else 1
def digE : DV → Option (DV × List Bool)
  | .int .u64 (.ofNat u) => some (.int .i64 (digN 20 u), [decide (1 ≤ u), decide (u < 18446744073709551616)])
  | _ => none

theorem digN_is : ∀ n u, u < 10 ^ n → 1 ≤ n → digN n u = Lib.nDigits u
  | 0, u, _, h => by omega
  | n + 1, u, hu, _ => by
    unfold digN
    by_cases h : 10 ≤ u
    · rw [Nat.ble_eq_true_of_le h, Lib.nDigits_big (by omega)]
      simp only [cond_true]
      rw [digN_is n (u / 10) (by rw [Nat.pow_succ] at hu; omega) (by
        cases n with
        | zero => simp at hu; omega
        | succ n => omega)]
    · have hb : Nat.ble 10 u = false := by cases hh : Nat.ble 10 u; rfl; exact absurd (Nat.le_of_ble_eq_true hh) h
      rw [hb, Lib.nDigits_small (by omega)]
      rfl
theorem dig_ent : EntOk Tryz.prog 567 (e1 digE) := by
  refine e1_ok fun x y c hg hc => ?_
  unfold digE at hg
  split at hg
  · rename_i u
    simp only [Option.some.injEq, Prod.mk.injEq] at hg
    obtain ⟨rfl, rfl⟩ := hg
    have h1 : 1 ≤ u := by simpa using hc (decide (1 ≤ u)) (by simp)
    have h2 : u < 18446744073709551616 := by simpa using hc (decide (u < 18446744073709551616)) (by simp)
    intro κ φ w vs g1 g2 g3 g4
    obtain ⟨v, rfl, hv⟩ := arg1 g3 g4
    cases hv with
    | d hd =>
    cases hd
    refine (Tryz.internal_strconv_numDigits u h1 h2 w (pow_is g2)).mono ?_
    rintro e w' ⟨rfl, rfl⟩
    rw [digN_is 20 u (by omega) (by omega)]
    exact ⟨_, _, _, κ, φ, rfl, ⟨rfl, rfl⟩, .d (.int _ _), g1, g2, Nat.le_refl _, Fr.refl _ _, Kp.refl _ _⟩
  · cases hg

theorem add_run (x y : Nat) (hx : x < 18446744073709551616) (hy : y < 18446744073709551616) (w : World) : (callFunc 450 #[.int .u64 x, .int .u64 y, .int .u64 0]).run Tryz.prog w =
    .ok (.value (.tuple #[.int .u64 (((x + y) % 18446744073709551616 : Nat) : Int), .int .u64 (((x + y) / 18446744073709551616 : Nat) : Int)])) w := by
  rw [run_callFunc_extern Tryz.func450 (by kernel_rfl) (by kernel_rfl) (by kernel_rfl) (e := add64Entry) (by kernel_rfl), run_add64 x y 0 (by omega) (by omega) (by omega) (by omega) w]
  simp only [Result.andThen]
  congr 5 <;> omega

set_option maxHeartbeats 2000000 in
theorem addWalk (h x : Int) (l : Nat) (hl : l < 18446744073709551616) (w : World) :
    Calls Tryz.prog 354 #[.agg #[.int .i64 h, .int .u64 l], .int .i64 x] w fun e w' => e = .returned (.agg #[.int .i64 (addHi h x l), .int .u64 (addLo x l)]) ∧ Below w.heap.size w w' := by
  have hcall : ∀ W : World, (callFunc 450 #[.int .u64 l, .int .u64 (IntKind.u64.wrap x), .int .u64 0]).run Tryz.prog W = .ok (.value (.tuple #[.int .u64 (addLo x l), .int .u64 ((l + (x % 18446744073709551616).toNat) / 18446744073709551616 : Nat)])) W := fun W => by
    have hw : IntKind.u64.wrap x = (((x % 18446744073709551616).toNat : Nat) : Int) := by
      rw [IntKind.wrap_u64, Int.toNat_of_nonneg (by omega)]
    rw [hw]; exact add_run l _ hl (by omega) W
  go_enter Tryz.func354, Tryz.ntmps354
  go_wp2_with (simp only [hcall])
  exact bodyPost_ret (v := .agg #[.int .i64 (addHi h x l), .int .u64 (addLo x l)]) (by simp [results, Tryz.results354, go_sem, addHi]) rfl ⟨rfl, ((Below.refl _ w).alloc (Nat.le_refl _) _).alloc (by simp) _⟩

theorem add_ent : EntOk Tryz.prog 354 (e2 addE) := by
  refine e2_ok fun x x2 y c hg hc => ?_
  unfold addE at hg
  split at hg
  · rename_i h l x
    simp only [Option.some.injEq, Prod.mk.injEq] at hg
    obtain ⟨rfl, rfl⟩ := hg
    have h1 : l < 18446744073709551616 := by simpa using hc (decide (l < 18446744073709551616)) (by simp)
    exact C_flat (args := [.agg [.int .i64 h, .int .u64 l], .int .i64 x]) (us := [.agg #[.int .i64 h, .int .u64 l], .int .i64 x]) (v := .agg #[.int .i64 (addHi h x l), .int .u64 (addLo x l)]) rfl rfl fun w => addWalk h x l h1 w
  · cases hg
end Go.Proofs.YtadndmmhpkmjeaaGreatDoor

/-
  The closed machine of this program: the contracts of Go's library that stand under all runs.
-/
namespace Go.Proofs.YtadndmmhpkmjeaaGreatDoor
open Go.RowKit Am

noncomputable def tbB : List (Nat × Ent) := [(286, fldE),
  (162, e2 cmpE),
  (283, e2 idxE),
  (496, e2 cntE),
  (94, e2 repE),
  (280, copyE),
  (175, strE),
  (191, cloE),
  (281, growE),
  (517, insECell),
  (200, insETable),
  (206, insEIndex),
  (567, e1 digE),
  (354, e2 addE),
  (261, insEGroup),
  (274, cloE),
  (188, sortE)]
theorem tbB_ok : EntsOk Tryz.prog tbB := .cons fld_ent (.cons cmp_ent (.cons idx_ent (.cons cnt_ent (.cons rep_ent (.cons copy_ent (.cons str_ent (.cons clo_ent (.cons grow_ent (.cons ins_entCell (.cons ins_entTable (.cons ins_entIndex (.cons dig_ent (.cons add_ent (.cons ins_entGroup (.cons clo_ent2 (.cons sort_ent .nil))))))))))))))))
noncomputable def baseK : Kon := konOf tbB
theorem baseK_ok : KSound Tryz.prog (rowsK baseK []) := konOf_ok tbB_ok
end Go.Proofs.YtadndmmhpkmjeaaGreatDoor
