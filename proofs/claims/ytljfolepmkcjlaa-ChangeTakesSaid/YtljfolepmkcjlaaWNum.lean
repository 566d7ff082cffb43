/-
  The walks of layer 1 (number) and of its reference: what they answer.
-/
import Derived.Test.YtljfolepmkcjlaaChecked
import Derived.Test.YtljfolepmkcjlaaRec
import Derived.Test.YtljfolepmkcjlaaWVal
import Derived.WalkKit
import Derived.Below
import Derived.Outline
import Derived.Deep.OwnRows
import Derived.WalkSmall
import Derived.Lib.Hide
namespace Go.Proofs.Ytljfolepmkcjlaa
open Go.RowKit Plain

theorem xor_zero_u64 (a : Int) (h1 : 0 ≤ a) (h2 : a < 18446744073709551616) : bits .xor .u64 a 0 = a := by
  rw [u64_xor a 0 h1 h2 (by omega) (by omega)]
  simp
  omega
theorem nat_xor_ones (a : Nat) (ha : a < 18446744073709551616) : a ^^^ 18446744073709551615 = 18446744073709551615 - a := by
  have h : (BitVec.ofNat 64 a ^^^ BitVec.allOnes 64).toNat = (~~~ (BitVec.ofNat 64 a)).toNat := by rw [BitVec.xor_allOnes]
  rw [BitVec.toNat_xor, BitVec.toNat_not, BitVec.toNat_ofNat, Nat.mod_eq_of_lt (by omega)] at h
  simpa using h
theorem xor_ones_u64 (a : Int) (h1 : 0 ≤ a) (h2 : a < 18446744073709551616) : bits .xor .u64 a 18446744073709551615 = 18446744073709551615 - a := by
  rw [u64_xor a 18446744073709551615 h1 h2 (by omega) (by omega)]
  have := nat_xor_ones a.toNat (by omega)
  rw [show (18446744073709551615 : Int).toNat = 18446744073709551615 from rfl, this]
  omega
theorem xor_zero_i64 (a : Int) (h1 : 0 ≤ a) (h2 : a ≤ 9223372036854775807) : bits .xor .i64 a 0 = a := by
  show IntKind.i64.wrap ((BitVec.ofInt 64 a ^^^ BitVec.ofInt 64 0).toNat : Int) = _
  obtain ⟨n, rfl⟩ := Int.eq_ofNat_of_zero_le h1
  rw [BitVec.toNat_xor, BitVec.ofInt_natCast, BitVec.toNat_ofNat, Nat.mod_eq_of_lt (by omega), IntKind.wrap_i64]
  simp
  omega
theorem xor_ones_i64 (a : Int) (h1 : 0 ≤ a) (h2 : a ≤ 9223372036854775807) : bits .xor .i64 a (-1) = -a - 1 := by
  show IntKind.i64.wrap ((BitVec.ofInt 64 a ^^^ BitVec.ofInt 64 (-1)).toNat : Int) = _
  obtain ⟨n, rfl⟩ := Int.eq_ofNat_of_zero_le h1
  rw [BitVec.toNat_xor, BitVec.ofInt_natCast, BitVec.toNat_ofNat, Nat.mod_eq_of_lt (by omega), show (BitVec.ofInt 64 (-1)).toNat = 18446744073709551615 from by decide, nat_xor_ones n (by omega), IntKind.wrap_i64]
  omega
theorem and_127 (n : Nat) (h : n < 18446744073709551616) : bits .and .u64 (n : Int) 127 = ((n % 128 : Nat) : Int) := by
  have e := u64_and_nat n 127 h (by omega)
  rw [show n &&& 127 = n % 128 from Nat.and_two_pow_sub_one_eq_mod n 7] at e
  exact e
theorem or_128 (m : Nat) (h : m < 256) : bits .or .u8 (m : Int) 128 = ((m % 128 + 128 : Nat) : Int) := by
  have e := u8_or_nat m 128 h (by omega)
  have h2 : ∀ m : Nat, m < 256 → m ||| 128 = m % 128 + 128 := by decide +kernel
  rw [h2 m h] at e
  exact e

set_option maxHeartbeats 400000 in
theorem fold_any (i : Int) (w : World) (h1 : -9223372036854775808 ≤ i) (h2 : i ≤ 9223372036854775807) :
    Calls Try.prog 103 #[.int .i64 i] w fun e w' => e = .returned (.int .u64 (foldI i : Nat)) ∧ w = w' := by
  go_enter Try.func103, Try.ntmps103
  go_wp2
  go_ret
  refine ⟨ret_int ?_, rfl⟩
  rw [IntKind.wrap_u64, IntKind.wrap_u64, IntKind.wrap_u64]
  unfold foldI
  by_cases h : 0 ≤ i
  · rw [show i / 9223372036854775808 % 18446744073709551616 = 0 by omega, xor_zero_u64 _ (by omega) (by omega), if_pos h]
    omega
  · rw [show i / 9223372036854775808 % 18446744073709551616 = 18446744073709551615 by omega, xor_ones_u64 _ (by omega) (by omega), if_neg h]
    omega

set_option maxHeartbeats 400000 in
theorem rfold_any (i : Int) (w : World) (h1 : -9223372036854775808 ≤ i) (h2 : i ≤ 9223372036854775807) :
    Calls Try.prog 96 #[.int .i64 i] w fun e w' => e = .returned (.int .u64 (foldI i : Nat)) ∧ w = w' := by
  go_enter Try.func96, Try.ntmps96
  go_wp2
  all_goals
    go_ret
    refine ⟨ret_int ?_, rfl⟩
    unfold foldI
    split <;> omega

set_option maxHeartbeats 400000 in
theorem unfold_any (n : Nat) (w : World) (h1 : n < 18446744073709551616) :
    Calls Try.prog 66 #[.int .u64 n] w fun e w' => e = .returned (.int .i64 (unfoldN n)) ∧ w = w' := by
  go_enter Try.func66, Try.ntmps66
  go_wp2
  go_ret
  refine ⟨ret_int ?_, rfl⟩
  rw [and_one_u64 n (by omega) (by omega)]
  unfold unfoldN
  by_cases h : n % 2 = 0
  · rw [if_pos h, show (n : Int) % 2 = 0 by omega]
    rw [show wrap64 (-wrap64 0) = 0 from by rw [IntWalk.wrap64_in 0 (by omega)]; exact IntWalk.wrap64_in 0 (by omega)]
    rw [xor_zero_i64 _ (by omega) (by omega)]
    omega
  · rw [if_neg h, show (n : Int) % 2 = 1 by omega]
    rw [show wrap64 (-wrap64 1) = -1 from by rw [IntWalk.wrap64_in 1 (by omega)]; exact IntWalk.wrap64_in (-1) (by omega)]
    rw [xor_ones_i64 _ (by omega) (by omega)]
    omega

set_option maxHeartbeats 400000 in
theorem runfold_any (n : Nat) (w : World) (h1 : n < 18446744073709551616) :
    Calls Try.prog 68 #[.int .u64 n] w fun e w' => e = .returned (.int .i64 (unfoldN n)) ∧ w = w' := by
  go_enter Try.func68, Try.ntmps68
  go_wp2
  all_goals
    go_ret
    refine ⟨ret_int ?_, rfl⟩
    simp only [beq_iff_eq, beq_eq_false_iff_ne, ne_eq] at *
    unfold unfoldN
    split <;> omega

def SizeRel (n j m : Nat) : Prop := j + digs 10 m = digs 10 (n / 128) ∧ m < 18446744073709551616 ∧ j ≤ 8
theorem SizeRel.fin8 {n m : Nat} (h : SizeRel n 8 m) (hm : 0 < m) : (putN n).length = 9 := by
  obtain ⟨h1, h2, h3⟩ := h
  rw [digs_step m (by omega) h2] at h1
  have h2 := putN_length_le n
  rw [putN_length] at h2 ⊢
  split <;> (try split at h2) <;> omega
theorem SizeRel.fin0 {n j : Nat} (h : SizeRel n j 0) : (putN n).length = if n < 72057594037927936 then j + 1 else 9 := by
  obtain ⟨h1, h2, h3⟩ := h
  rw [digs_zero] at h1
  rw [putN_length]
  split <;> omega

set_option maxHeartbeats 400000 in
theorem size_any (n : Nat) (w : World) (h1 : n < 18446744073709551616) :
    Calls Try.prog 64 #[.int .u64 n] w fun e w' => e = .returned (.int .i64 ((putN n).length : Nat)) ∧ w = w' := by
  have HR : SizeRel n 0 (n / 128) := ⟨by omega, by omega, by omega⟩
  have hN : ((n : Nat) : Int) < 72057594037927936 ∨ 72057594037927936 ≤ ((n : Nat) : Int) := by omega
  go_enter Try.func64, Try.ntmps64
  clear h1
  go_wp2
  go_loop [3, 4] (fun a b => ∃ j m : Nat, j ≤ 8 ∧ a = .int .i64 ((j : Int) + 1) ∧ b = .int .u64 (m : Int) ∧ SizeRel n j m) (fun a _ => (9 - intOf a).toNat)
  case atStart => exact ⟨0, n / 128, by omega, by go_num, by go_num, HR⟩
  case round =>
    obtain ⟨j, m, hj, rfl, rfl, hD⟩ := hrel
    by_cases h0 : 0 < m
    · by_cases h9 : j < 8
      · go_wp2
        go_round
        case rel => exact ⟨j + 1, m / 128, by omega, by go_num, by go_num, by obtain ⟨a, b, c⟩ := hD; rw [digs_step m (by omega) b] at a; exact ⟨by omega, by omega, by omega⟩⟩
        case measure => simp [intOf]; omega
      · obtain rfl : j = 8 := by omega
        have hfin := hD.fin8 h0
        have HF := Lib.hid hfin
        clear hfin hD HR
        rcases hN with hN | hN
        · have hd : decide ((72057594037927936 : Int) ≤ ((n : Nat) : Int)) = false := decide_eq_false (by omega)
          clear hN
          go_wp2
          go_ret
          exact ⟨ret_int (by rw [HF.out]; rfl), rfl⟩
        · have hd : decide ((72057594037927936 : Int) ≤ ((n : Nat) : Int)) = true := decide_eq_true (by omega)
          clear hN
          go_wp2
          go_ret
          exact ⟨ret_int (by rw [HF.out]; rfl), rfl⟩
    · obtain rfl : m = 0 := by omega
      have hfin := hD.fin0
      clear hD HR h0
      rcases hN with hN | hN
      · rw [if_pos (by omega)] at hfin
        have HF := Lib.hid hfin
        clear hfin
        have hd : decide ((72057594037927936 : Int) ≤ ((n : Nat) : Int)) = false := decide_eq_false (by omega)
        clear hN
        go_wp2
        go_ret
        exact ⟨ret_int (by rw [HF.out]; omega), rfl⟩
      · rw [if_neg (by omega)] at hfin
        have HF := Lib.hid hfin
        clear hfin
        go_wp2
        go_ret
        exact ⟨ret_int (by rw [HF.out]; omega), rfl⟩
end Go.Proofs.Ytljfolepmkcjlaa
