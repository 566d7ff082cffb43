/-
  The reference's Same (of a page and itself), value and part.
-/
import Derived.Test.YtchmeldlpoimnaaAmQ0
namespace Go.Proofs.Ytchmeldlpoimnaa
open Go.RowKit Am IntWalk
set_option maxRecDepth 100000
set_option linter.unusedVariables false
set_option linter.unusedSimpArgs false

theorem same_loop (N : Nod) (hn : N.cells.length ≤ 500000) : WK Try.prog 0 (stackAt smC 0) (smS N 0).den (Ends (Try.f29.results.toList) (.d (.bool true))) := by
  have ok := cfT_ok (l := []) .nil
  refine WK.rec' (fun i => smS N i) (fun i => i ≤ N.cells.length) (fun i => N.cells.length - i) ?_ 0 (Nat.zero_le _)
  rintro i hi ih
  obtain ⟨c, hcd⟩ : ∃ c, ndAt N.cells i = c := ⟨_, rfl⟩
  have hml : (N.cells.map cD).length = N.cells.length := List.length_map ..
  have hlt : decide ((Nat.cast (R := Int) i) < (Nat.cast (R := Int) (List.map cD N.cells).length)) = true → i < N.cells.length := fun h => by have := of_decide_eq_true h; omega
  have hc : i < N.cells.length → (N.cells.map cD).getD i .nilp = cD c := fun h => hcd ▸ getD_cD _ _ h
  rcases Bool.eq_false_or_eq_true (decide ((Nat.cast (R := Int) i) < (Nat.cast (R := Int) (List.map cD N.cells).length)) : Bool) with h38 | h38
  · skip
    rcases Bool.eq_false_or_eq_true (!(c.1 == c.1 && (c.2 == c.2 && (c.3 == c.3 && (c.4 == c.4 && true)))) : Bool) with h51 | h51
    · skip
      exact WK.fin ok 1000 0 [(44, RV.iptr (DV.agg [DV.str c.1, DV.int Go.IntKind.i64 c.2, DV.str c.3, DV.int Go.IntKind.i64 c.4]) 0), (49, RV.iptr (DV.agg [DV.str c.1, DV.int Go.IntKind.i64 c.2, DV.str c.3, DV.int Go.IntKind.i64 c.4]) 0), (40, RV.d (DV.int Go.IntKind.i64 (Nat.cast (R := Int) (i + 1)))), (38, RV.d (DV.bool true)), (51, RV.d (DV.bool true))] [decide (0 ≤ (Nat.cast (R := Int) i) ∧ (Nat.cast (R := Int) i) < (Nat.cast (R := Int) (List.map cD N.cells).length)), decide (0 ≤ (Nat.cast (R := Int) i) ∧ (Nat.cast (R := Int) i) < (Nat.cast (R := Int) (List.map cD N.cells).length))] [(RV.d (DV.bool (decide ((Nat.cast (R := Int) i) < (Nat.cast (R := Int) (List.map cD N.cells).length)))), RV.d (DV.bool true)), (RV.iptr ((List.map cD N.cells).getD (Nat.cast (R := Int) i).toNat DV.nilp) 0, RV.iptr (DV.agg [DV.str c.1, DV.int Go.IntKind.i64 c.2, DV.str c.3, DV.int Go.IntKind.i64 c.4]) 0), (RV.iptr ((List.map cD N.cells).getD (Nat.cast (R := Int) i).toNat DV.nilp) 0, RV.iptr (DV.agg [DV.str c.1, DV.int Go.IntKind.i64 c.2, DV.str c.3, DV.int Go.IntKind.i64 c.4]) 0), (RV.d (DV.bool !(c.1 == c.1 && (c.2 == c.2 && (c.3 == c.3 && (c.4 == c.4 && true))))), RV.d (DV.bool true))] rfl (by kernel_rfl : runEnd (cfT []) true _ 1000 0 _ _ (smS N i) = some (RV.d (DV.bool false), [], _, _)) (by refine ⟨?_, ?_, trivial⟩ <;> (exact decide_eq_true (by have := hlt h38; omega))) (by refine ⟨le_bool h38, ?_, ?_, le_bool h51, trivial⟩ <;> (first | (refine .of_eq ?_; rw [wrap_succ (by have := hlt h38; omega)]; done) | (refine .of_eq ?_; rw [Int.toNat_natCast, hc (hlt h38)]; rfl))) (by first | exact absurd h51 (by simp) | exact ⟨rfl, rfl⟩)
    · skip
      refine WK.segA ok 1000 0 [(44, RV.iptr (DV.agg [DV.str c.1, DV.int Go.IntKind.i64 c.2, DV.str c.3, DV.int Go.IntKind.i64 c.4]) 0), (49, RV.iptr (DV.agg [DV.str c.1, DV.int Go.IntKind.i64 c.2, DV.str c.3, DV.int Go.IntKind.i64 c.4]) 0), (40, RV.d (DV.int Go.IntKind.i64 (Nat.cast (R := Int) (i + 1)))), (38, RV.d (DV.bool true)), (51, RV.d (DV.bool false))] [] [2, 3, 5] [decide (0 ≤ (Nat.cast (R := Int) i) ∧ (Nat.cast (R := Int) i) < (Nat.cast (R := Int) (List.map cD N.cells).length)), decide (0 ≤ (Nat.cast (R := Int) i) ∧ (Nat.cast (R := Int) i) < (Nat.cast (R := Int) (List.map cD N.cells).length))] [(RV.d (DV.bool (decide ((Nat.cast (R := Int) i) < (Nat.cast (R := Int) (List.map cD N.cells).length)))), RV.d (DV.bool true)), (RV.iptr ((List.map cD N.cells).getD (Nat.cast (R := Int) i).toNat DV.nilp) 0, RV.iptr (DV.agg [DV.str c.1, DV.int Go.IntKind.i64 c.2, DV.str c.3, DV.int Go.IntKind.i64 c.4]) 0), (RV.iptr ((List.map cD N.cells).getD (Nat.cast (R := Int) i).toNat DV.nilp) 0, RV.iptr (DV.agg [DV.str c.1, DV.int Go.IntKind.i64 c.2, DV.str c.3, DV.int Go.IntKind.i64 c.4]) 0), (RV.d (DV.bool !(c.1 == c.1 && (c.2 == c.2 && (c.3 == c.3 && (c.4 == c.4 && true))))), RV.d (DV.bool false)), (RV.d (DV.int Go.IntKind.i64 (Go.IntKind.i64.wrap ((Nat.cast (R := Int) i) + 1))), RV.d (DV.int Go.IntKind.i64 (Nat.cast (R := Int) (i + 1))))] rfl (by kernel_rfl : runSegA (cfT []) 1000 0 _ _ _ _ (smS N i) = some (stackAt smC 0, smS N (i + 1), _, _)) (by refine ⟨?_, ?_, trivial⟩ <;> (exact decide_eq_true (by have := hlt h38; omega))) (by refine ⟨le_bool h38, ?_, ?_, le_bool h51, ?_, trivial⟩ <;> (first | (refine .of_eq ?_; rw [wrap_succ (by have := hlt h38; omega)]; done) | (refine .of_eq ?_; rw [Int.toNat_natCast, hc (hlt h38)]; rfl))) ?_
      exact ih (i + 1) (by have := hlt h38; omega) (by have := hlt h38; omega)
  · skip
    exact WK.fin ok 1000 0 [(44, RV.iptr (DV.agg [DV.str c.1, DV.int Go.IntKind.i64 c.2, DV.str c.3, DV.int Go.IntKind.i64 c.4]) 0), (49, RV.iptr (DV.agg [DV.str c.1, DV.int Go.IntKind.i64 c.2, DV.str c.3, DV.int Go.IntKind.i64 c.4]) 0), (40, RV.d (DV.int Go.IntKind.i64 (Nat.cast (R := Int) (i + 1)))), (38, RV.d (DV.bool false))] [] [(RV.d (DV.bool (decide ((Nat.cast (R := Int) i) < (Nat.cast (R := Int) (List.map cD N.cells).length)))), RV.d (DV.bool false))] rfl (by kernel_rfl : runEnd (cfT []) true _ 1000 0 _ _ (smS N i) = some (RV.d (DV.bool true), [], _, _)) trivial ⟨le_bool h38, trivial⟩ (by first | exact absurd h51 (by simp) | exact ⟨rfl, rfl⟩)
theorem same_c (N : Nod) (hn : N.cells.length ≤ 500000) : C Try.prog 29 [.d (nD N), .d (nD N)] [] (fun r o => r = .d (.bool true) ∧ o = []) := by
  have ok := cfT_ok (l := []) .nil
  refine C_of_run (fn := Try.f29) (body := smC) true (by kernel_rfl) (by kernel_rfl) (by kernel_rfl) ?_
  rcases Bool.eq_false_or_eq_true (N.1 != N.1 : Bool) with h11 | h11
  · skip
    exact WK.fin ok 1000 0 [(11, RV.d (DV.bool true))] [] [(RV.d (DV.bool (N.1 != N.1)), RV.d (DV.bool true))] rfl (by kernel_rfl : runEnd (cfT []) true _ 1000 0 _ _ (ini 52 [.d (nD N), .d (nD N)] []) = some (RV.d (DV.bool false), [], _, _)) trivial ⟨le_bool h11, trivial⟩ (by exfalso; first | (simp at h33; done) | (simp at h25; done) | (simp at h18; done) | (simp at h11; done))
  · skip
    rcases Bool.eq_false_or_eq_true (N.2 != N.2 : Bool) with h18 | h18
    · skip
      exact WK.fin ok 1000 0 [(11, RV.d (DV.bool false)), (18, RV.d (DV.bool true))] [] [(RV.d (DV.bool (N.1 != N.1)), RV.d (DV.bool false)), (RV.d (DV.bool (N.2 != N.2)), RV.d (DV.bool true))] rfl (by kernel_rfl : runEnd (cfT []) true _ 1000 0 _ _ (ini 52 [.d (nD N), .d (nD N)] []) = some (RV.d (DV.bool false), [], _, _)) trivial ⟨le_bool h11, le_bool h18, trivial⟩ (by exfalso; first | (simp at h33; done) | (simp at h25; done) | (simp at h18; done) | (simp at h11; done))
    · skip
      rcases Bool.eq_false_or_eq_true (!N.4 == N.4 : Bool) with h25 | h25
      · skip
        exact WK.fin ok 1000 0 [(11, RV.d (DV.bool false)), (18, RV.d (DV.bool false)), (25, RV.d (DV.bool true))] [] [(RV.d (DV.bool (N.1 != N.1)), RV.d (DV.bool false)), (RV.d (DV.bool (N.2 != N.2)), RV.d (DV.bool false)), (RV.d (DV.bool !N.4 == N.4), RV.d (DV.bool true))] rfl (by kernel_rfl : runEnd (cfT []) true _ 1000 0 _ _ (ini 52 [.d (nD N), .d (nD N)] []) = some (RV.d (DV.bool false), [], _, _)) trivial ⟨le_bool h11, le_bool h18, le_bool h25, trivial⟩ (by exfalso; first | (simp at h33; done) | (simp at h25; done) | (simp at h18; done) | (simp at h11; done))
      · skip
        rcases Bool.eq_false_or_eq_true ((Nat.cast (R := Int) (List.map cD N.3).length) != (Nat.cast (R := Int) (List.map cD N.3).length) : Bool) with h33 | h33
        · skip
          exact WK.fin ok 1000 0 [(11, RV.d (DV.bool false)), (18, RV.d (DV.bool false)), (25, RV.d (DV.bool false)), (33, RV.d (DV.bool true))] [] [(RV.d (DV.bool (N.1 != N.1)), RV.d (DV.bool false)), (RV.d (DV.bool (N.2 != N.2)), RV.d (DV.bool false)), (RV.d (DV.bool !N.4 == N.4), RV.d (DV.bool false)), (RV.d (DV.bool ((Nat.cast (R := Int) (List.map cD N.3).length) != (Nat.cast (R := Int) (List.map cD N.3).length))), RV.d (DV.bool true))] rfl (by kernel_rfl : runEnd (cfT []) true _ 1000 0 _ _ (ini 52 [.d (nD N), .d (nD N)] []) = some (RV.d (DV.bool false), [], _, _)) trivial ⟨le_bool h11, le_bool h18, le_bool h25, le_bool h33, trivial⟩ (by exfalso; first | (simp at h33; done) | (simp at h25; done) | (simp at h18; done) | (simp at h11; done))
        · skip
          refine WK.segA ok 1000 0 [(11, RV.d (DV.bool false)), (18, RV.d (DV.bool false)), (25, RV.d (DV.bool false)), (33, RV.d (DV.bool false))] [] [2, 3, 5] [] [(RV.d (DV.bool (N.1 != N.1)), RV.d (DV.bool false)), (RV.d (DV.bool (N.2 != N.2)), RV.d (DV.bool false)), (RV.d (DV.bool !N.4 == N.4), RV.d (DV.bool false)), (RV.d (DV.bool ((Nat.cast (R := Int) (List.map cD N.3).length) != (Nat.cast (R := Int) (List.map cD N.3).length))), RV.d (DV.bool false))] rfl (by kernel_rfl : runSegA (cfT []) 1000 0 _ _ _ _ (ini 52 [.d (nD N), .d (nD N)] []) = some (stackAt smC 0, smS N 0, _, _)) trivial ⟨le_bool h11, le_bool h18, le_bool h25, le_bool h33, trivial⟩ ?_
          exact same_loop N hn
open Classical in
noncomputable def eqN (a b : Nod) : Bool := decide (a = b)
theorem eqN_refl (a : Nod) : eqN a a = true := by simp [eqN]
theorem eqN_of {a b : Nod} (h : eqN a b = true) : a = b := by simpa [eqN] using h
noncomputable def sameEn : DV → DV → Option (DV × List Bool) := fun x y => some (.bool true, [isNod x, isNod y, eqN (toNod x) (toNod y), decide ((toNod x).cells.length ≤ 500000)])
theorem same_ent : EntOk Try.prog 29 (e2 sameEn) := by
  refine ent2 fun x x2 y c hg hc => ?_
  unfold sameEn at hg
  simp only [Option.some.injEq, Prod.mk.injEq] at hg
  obtain ⟨rfl, rfl⟩ := hg
  have h1 : isNod x = true := hc _ (by simp)
  have h2 : isNod x2 = true := hc _ (by simp)
  have h3 := eqN_of (hc (eqN (toNod x) (toNod x2)) (by simp))
  have h4 : (toNod x).cells.length ≤ 500000 := of_decide_eq_true (hc _ (by simp))
  have := same_c (toNod x) h4
  have e1 := isNod_spec h1
  have e2 := isNod_spec h2
  rw [← h3] at e2
  rw [← e1] at this
  rw [e2, ← e1]
  exact this

def byAt (s : Bs) (a : Nat) (m : Nat) : Int := valR s a m
theorem valR_nn (s : Bs) (a : Nat) : ∀ m, 0 ≤ valR s a m
  | 0 => Int.le_refl 0
  | m + 1 => by
    have := valR_nn s a m
    rw [valR]; unfold byR; split <;> omega
theorem byR_lt (s : Bs) (i : Nat) : byR s i < 256 := by
  unfold byR; split
  · have := (s.getD i 0).toNat_lt; omega
  · omega
theorem valR_lt (s : Bs) (a : Nat) : ∀ m, valR s a m < 256 ^ m
  | 0 => by simp [valR]
  | m + 1 => by
    have := valR_lt s a m
    have := byR_lt s (a + m)
    rw [valR, Int.pow_succ]; omega
theorem valR_s {s : Bs} {a m : Nat} (hm : m ≤ 3) : 0 ≤ valR s a m ∧ valR s a m < 16777216 := by
  refine ⟨valR_nn s a m, Int.lt_of_lt_of_le (valR_lt s a m) ?_⟩
  rcases (by omega : m = 0 ∨ m = 1 ∨ m = 2 ∨ m = 3) with rfl | rfl | rfl | rfl <;> decide
theorem val_step1 {s : Bs} {a j : Nat} (hj : j ≤ 3) (h : a + j < s.length) : IntKind.i64.wrap (256 * valR s a j + IntKind.i64.wrap (Nat.cast (R := Int) (s.getD (a + j) 0).toNat)) = valR s a (j + 1) := by
  have h1 := valR_s (s := s) (a := a) hj
  have h2 := (s.getD (a + j) 0).toNat_lt
  rw [i64_in (Nat.cast _) (by omega), i64_in _ (by omega), valR]
  unfold byR; rw [if_pos h]
theorem val_step0 {s : Bs} {a j : Nat} (hj : j ≤ 3) (h : ¬ a + j < s.length) : 256 * valR s a j = valR s a (j + 1) := by
  rw [valR]
  unfold byR; rw [if_neg h]; omega
theorem value_loop (s : Bs) (a m : Nat) (ha : a ≤ 1000000) (hm : m ≤ 4) : WK Try.prog 0 (stackAt vaC 0) (vaS s a m 0 0).den (Ends (Try.f76.results.toList) (.d (.int .i64 (valR s a m)))) := by
  have ok := cfT_ok (l := []) .nil
  refine WK.rec' (fun (y : Nat × Int) => vaS s a m y.1 y.2) (fun y => y.1 ≤ m ∧ y.2 = valR s a y.1) (fun y => m - y.1) ?_ (0, 0) ⟨Nat.zero_le _, rfl⟩
  rintro ⟨j, v⟩ ⟨hj, hv⟩ ih
  simp only at hj hv ih ⊢
  rcases Bool.eq_false_or_eq_true (decide ((Nat.cast (R := Int) (a + j)) < (Nat.cast (R := Int) (a + m))) : Bool) with h14 | h14
  · skip
    rcases Bool.eq_false_or_eq_true (decide ((Nat.cast (R := Int) (a + j)) < (Nat.cast (R := Int) (List.length s))) : Bool) with h22 | h22
    · skip
      refine WK.segA ok 1000 0 [(13, RV.d (DV.int Go.IntKind.i64 (Nat.cast (R := Int) (a + m)))), (16, RV.d (DV.int Go.IntKind.i64 (Nat.cast (R := Int) (a + (j + 1))))), (18, RV.d (DV.int Go.IntKind.i64 (256 * v))), (28, RV.d (DV.int Go.IntKind.i64 (valR s a (j + 1)))), (14, RV.d (DV.bool true)), (22, RV.d (DV.bool true))] [] [0, 1, 2, 7, 8] [decide (0 ≤ (Nat.cast (R := Int) (a + j)) ∧ (Nat.cast (R := Int) (a + j)) < (Nat.cast (R := Int) (List.length s)))] [(RV.d (DV.int Go.IntKind.i64 (Go.IntKind.i64.wrap ((Nat.cast (R := Int) a) + (Nat.cast (R := Int) m)))), RV.d (DV.int Go.IntKind.i64 (Nat.cast (R := Int) (a + m)))), (RV.d (DV.bool (decide ((Nat.cast (R := Int) (a + j)) < (Nat.cast (R := Int) (a + m))))), RV.d (DV.bool true)), (RV.d (DV.int Go.IntKind.i64 (Go.IntKind.i64.wrap (256 * v))), RV.d (DV.int Go.IntKind.i64 (256 * v))), (RV.d (DV.bool (decide ((Nat.cast (R := Int) (a + j)) < (Nat.cast (R := Int) (List.length s))))), RV.d (DV.bool true)), (RV.d (DV.int Go.IntKind.i64 (Go.IntKind.i64.wrap (256 * v + Go.IntKind.i64.wrap (Nat.cast (R := Int) (List.getD s (Nat.cast (R := Int) (a + j)).toNat (0 : UInt8)).toNat)))), RV.d (DV.int Go.IntKind.i64 (valR s a (j + 1)))), (RV.d (DV.int Go.IntKind.i64 (Go.IntKind.i64.wrap ((Nat.cast (R := Int) (a + j)) + 1))), RV.d (DV.int Go.IntKind.i64 (Nat.cast (R := Int) (a + (j + 1)))))] rfl (by kernel_rfl : runSegA (cfT []) 1000 0 _ _ _ _ (vaS s a m j v) = some (stackAt vaC 0, vaS s a m (j + 1) (valR s a (j + 1)), _, _)) ⟨(by exact decide_eq_true (by have := of_decide_eq_true h22; omega)), trivial⟩ (by refine ⟨?_, le_bool h14, ?_, le_bool h22, ?_, ?_, trivial⟩ <;> (first | (refine .of_eq ?_; rw [i64_in _ (by omega)]; exact congrArg (fun x : Int => RV.d (.int .i64 x)) (by omega)) | (refine .of_eq ?_; rw [i64_in _ (by have := valR_s (s := s) (a := a) (m := j) (by have := of_decide_eq_true h14; omega); omega)]; done) | (refine .of_eq ?_; rw [Int.toNat_natCast, hv, val_step1 (by have := of_decide_eq_true h14; omega) (by have := of_decide_eq_true h22; omega)]; done))) ?_
      exact ih (j + 1, _) ⟨by have := of_decide_eq_true h14; simp only; omega, by first | rfl | (simp only; rw [hv]; exact (val_step0 (by have := of_decide_eq_true h14; omega) (by have := of_decide_eq_false h22; omega)))⟩ (by have := of_decide_eq_true h14; simp only; omega)
    · skip
      refine WK.segA ok 1000 0 [(13, RV.d (DV.int Go.IntKind.i64 (Nat.cast (R := Int) (a + m)))), (16, RV.d (DV.int Go.IntKind.i64 (Nat.cast (R := Int) (a + (j + 1))))), (18, RV.d (DV.int Go.IntKind.i64 (256 * v))), (28, RV.d (DV.int Go.IntKind.i64 (valR s a (j + 1)))), (14, RV.d (DV.bool true)), (22, RV.d (DV.bool false))] [] [0, 1, 2, 7, 8] [] [(RV.d (DV.int Go.IntKind.i64 (Go.IntKind.i64.wrap ((Nat.cast (R := Int) a) + (Nat.cast (R := Int) m)))), RV.d (DV.int Go.IntKind.i64 (Nat.cast (R := Int) (a + m)))), (RV.d (DV.bool (decide ((Nat.cast (R := Int) (a + j)) < (Nat.cast (R := Int) (a + m))))), RV.d (DV.bool true)), (RV.d (DV.int Go.IntKind.i64 (Go.IntKind.i64.wrap (256 * v))), RV.d (DV.int Go.IntKind.i64 (256 * v))), (RV.d (DV.bool (decide ((Nat.cast (R := Int) (a + j)) < (Nat.cast (R := Int) (List.length s))))), RV.d (DV.bool false)), (RV.d (DV.int Go.IntKind.i64 (Go.IntKind.i64.wrap ((Nat.cast (R := Int) (a + j)) + 1))), RV.d (DV.int Go.IntKind.i64 (Nat.cast (R := Int) (a + (j + 1)))))] rfl (by kernel_rfl : runSegA (cfT []) 1000 0 _ _ _ _ (vaS s a m j v) = some (stackAt vaC 0, vaS s a m (j + 1) (256 * v), _, _)) trivial (by refine ⟨?_, le_bool h14, ?_, le_bool h22, ?_, trivial⟩ <;> (first | (refine .of_eq ?_; rw [i64_in _ (by omega)]; exact congrArg (fun x : Int => RV.d (.int .i64 x)) (by omega)) | (refine .of_eq ?_; rw [i64_in _ (by have := valR_s (s := s) (a := a) (m := j) (by have := of_decide_eq_true h14; omega); omega)]; done) | (refine .of_eq ?_; rw [Int.toNat_natCast, hv, val_step1 (by have := of_decide_eq_true h14; omega) (by have := of_decide_eq_true h22; omega)]; done))) ?_
      exact ih (j + 1, _) ⟨by have := of_decide_eq_true h14; simp only; omega, by first | rfl | (simp only; rw [hv]; exact (val_step0 (by have := of_decide_eq_true h14; omega) (by have := of_decide_eq_false h22; omega)))⟩ (by have := of_decide_eq_true h14; simp only; omega)
  · skip
    exact WK.fin ok 1000 0 [(13, RV.d (DV.int Go.IntKind.i64 (Nat.cast (R := Int) (a + m)))), (16, RV.d (DV.int Go.IntKind.i64 (Nat.cast (R := Int) (a + (j + 1))))), (18, RV.d (DV.int Go.IntKind.i64 (256 * v))), (28, RV.d (DV.int Go.IntKind.i64 (valR s a (j + 1)))), (14, RV.d (DV.bool false))] [] [(RV.d (DV.int Go.IntKind.i64 (Go.IntKind.i64.wrap ((Nat.cast (R := Int) a) + (Nat.cast (R := Int) m)))), RV.d (DV.int Go.IntKind.i64 (Nat.cast (R := Int) (a + m)))), (RV.d (DV.bool (decide ((Nat.cast (R := Int) (a + j)) < (Nat.cast (R := Int) (a + m))))), RV.d (DV.bool false))] rfl (by kernel_rfl : runEnd (cfT []) true _ 1000 0 _ _ (vaS s a m j v) = some (RV.d (DV.int Go.IntKind.i64 v), [], _, _)) trivial ⟨(by first | (refine .of_eq ?_; rw [i64_in _ (by omega)]; exact congrArg (fun x : Int => RV.d (.int .i64 x)) (by omega)) | (refine .of_eq ?_; rw [i64_in _ (by have := valR_s (s := s) (a := a) (m := j) (by have := of_decide_eq_true h14; omega); omega)]; done) | (refine .of_eq ?_; rw [Int.toNat_natCast, hv, val_step1 (by have := of_decide_eq_true h14; omega) (by have := of_decide_eq_true h22; omega)]; done)), le_bool h14, trivial⟩ ⟨by have e : j = m := (by have := of_decide_eq_false h14; omega); rw [hv, e], rfl⟩
theorem value_c (s : Bs) (a m : Nat) (ha : a ≤ 1000000) (hm : m ≤ 4) : C Try.prog 76 [.d (.str s), .d (.int .i64 (a : Int)), .d (.int .i64 (m : Int))] [] (fun r o => r = .d (.int .i64 (valR s a m)) ∧ o = []) := by
  have ok := cfT_ok (l := []) .nil
  refine C_of_run (fn := Try.f76) (body := vaC) true (by kernel_rfl) (by kernel_rfl) (by kernel_rfl) ?_
  refine WK.segA ok 1000 0 [] [] [0, 1, 2, 7, 8] [] [] rfl (by kernel_rfl : runSegA (cfT []) 1000 0 _ _ _ _ (ini 30 [.d (.str s), .d (.int .i64 (a : Int)), .d (.int .i64 (m : Int))] []) = some (stackAt vaC 0, vaS s a m 0 0, _, _)) trivial trivial ?_
  exact value_loop s a m ha hm
def valEn : Ent := fun x o => match x, o with
  | [.d (.str s), .d (.int .i64 a), .d (.int .i64 m)], [] => some (.d (.int .i64 (valR s a.toNat m.toNat)), [], [decide (0 ≤ a ∧ a ≤ 1000000), decide (0 ≤ m ∧ m ≤ 4)])
  | _, _ => none
theorem val_ent : EntOk Try.prog 76 valEn := by
  intro x o r o' c hg hc
  unfold valEn at hg
  split at hg
  · rename_i s a m
    simp only [Option.some.injEq, Prod.mk.injEq] at hg
    obtain ⟨rfl, rfl, rfl⟩ := hg
    have h1 : 0 ≤ a ∧ a ≤ 1000000 := of_decide_eq_true (hc _ (by simp))
    have h2 : 0 ≤ m ∧ m ≤ 4 := of_decide_eq_true (hc _ (by simp))
    have := value_c s a.toNat m.toNat (by omega) (by omega)
    rw [Int.toNat_of_nonneg h1.1, Int.toNat_of_nonneg h2.1] at this
    exact this
  · cases hg
theorem part_all {s : Bs} {a m : Nat} (h : (Nat.cast (R := Int) s.length) < Nat.cast (R := Int) (a + m)) : partR s a m = cutL s (some (a : Int)) none := by
  unfold partR
  simp only [cutL, Int.toNat_natCast]
  rw [List.take_of_length_le (by simp; omega)]
theorem part_cut {s : Bs} {a m : Nat} : partR s a m = cutL s (some (a : Int)) (some ((a + m : Nat) : Int)) := by
  unfold partR
  simp only [cutL, Int.toNat_natCast]
  rw [List.drop_take]; congr 1; omega
theorem part_nil {s : Bs} {a m : Nat} (h : (Nat.cast (R := Int) s.length) < Nat.cast (R := Int) a) : partR s a m = [] := by
  unfold partR
  rw [List.drop_eq_nil_of_le (by omega), List.take_nil]
theorem part_c (s : Bs) (a m : Nat) (ha : a ≤ 1000000) (hm : m ≤ 1000000) : C Try.prog 77 [.d (.str s), .d (.int .i64 (a : Int)), .d (.int .i64 (m : Int))] [] (fun r o => r = .d (.str (partR s a m)) ∧ o = []) := by
  have ok := cfT_ok (l := []) .nil
  refine C_of_run (fn := Try.f77) (body := paC) true (by kernel_rfl) (by kernel_rfl) (by kernel_rfl) ?_
  rcases Bool.eq_false_or_eq_true (decide ((Nat.cast (R := Int) (List.length s)) < (Nat.cast (R := Int) a)) : Bool) with h10 | h10
  · skip
    exact WK.fin ok 1000 0 [(13, RV.d (DV.int Go.IntKind.i64 (Nat.cast (R := Int) (a + m)))), (24, RV.d (DV.int Go.IntKind.i64 (Nat.cast (R := Int) (a + m)))), (10, RV.d (DV.bool true))] [] [(RV.d (DV.bool (decide ((Nat.cast (R := Int) (List.length s)) < (Nat.cast (R := Int) a)))), RV.d (DV.bool true))] rfl (by kernel_rfl : runEnd (cfT []) true _ 1000 0 _ _ (ini 26 [.d (.str s), .d (.int .i64 (a : Int)), .d (.int .i64 (m : Int))] []) = some (RV.d (DV.str []), [], _, _)) trivial ⟨le_bool h10, trivial⟩ ⟨by first | (rw [part_all (of_decide_eq_true h16)]; done) | (rw [part_cut]; done) | (rw [part_nil (of_decide_eq_true h10)]; done), rfl⟩
  · skip
    rcases Bool.eq_false_or_eq_true (decide ((Nat.cast (R := Int) (List.length s)) < (Nat.cast (R := Int) (a + m))) : Bool) with h16 | h16
    · skip
      exact WK.fin ok 1000 0 [(13, RV.d (DV.int Go.IntKind.i64 (Nat.cast (R := Int) (a + m)))), (24, RV.d (DV.int Go.IntKind.i64 (Nat.cast (R := Int) (a + m)))), (10, RV.d (DV.bool false)), (16, RV.d (DV.bool true))] [decide (0 ≤ (Nat.cast (R := Int) a) ∧ (Nat.cast (R := Int) a) ≤ (Nat.cast (R := Int) (List.length s)))] [(RV.d (DV.bool (decide ((Nat.cast (R := Int) (List.length s)) < (Nat.cast (R := Int) a)))), RV.d (DV.bool false)), (RV.d (DV.int Go.IntKind.i64 (Go.IntKind.i64.wrap ((Nat.cast (R := Int) a) + (Nat.cast (R := Int) m)))), RV.d (DV.int Go.IntKind.i64 (Nat.cast (R := Int) (a + m)))), (RV.d (DV.bool (decide ((Nat.cast (R := Int) (List.length s)) < (Nat.cast (R := Int) (a + m))))), RV.d (DV.bool true))] rfl (by kernel_rfl : runEnd (cfT []) true _ 1000 0 _ _ (ini 26 [.d (.str s), .d (.int .i64 (a : Int)), .d (.int .i64 (m : Int))] []) = some (RV.d (DV.str (cutL s (Option.some (Nat.cast (R := Int) a)) Option.none)), [], _, _)) ⟨(by exact decide_eq_true (by first | (have := of_decide_eq_false h10; omega) | (have := of_decide_eq_false h10; have := of_decide_eq_false h16; omega))), trivial⟩ ⟨le_bool h10, (by (refine .of_eq ?_; rw [i64_in _ (by omega)]; exact congrArg (fun x : Int => RV.d (.int .i64 x)) (by omega))), le_bool h16, trivial⟩ ⟨by first | (rw [part_all (of_decide_eq_true h16)]; done) | (rw [part_cut]; done) | (rw [part_nil (of_decide_eq_true h10)]; done), rfl⟩
    · skip
      exact WK.fin ok 1000 0 [(13, RV.d (DV.int Go.IntKind.i64 (Nat.cast (R := Int) (a + m)))), (24, RV.d (DV.int Go.IntKind.i64 (Nat.cast (R := Int) (a + m)))), (10, RV.d (DV.bool false)), (16, RV.d (DV.bool false))] [decide (0 ≤ (Nat.cast (R := Int) (a + m)) ∧ (Nat.cast (R := Int) (a + m)) ≤ (Nat.cast (R := Int) (List.length s))), decide (0 ≤ (Nat.cast (R := Int) a) ∧ (Nat.cast (R := Int) a) ≤ (Nat.cast (R := Int) (Nat.cast (R := Int) (a + m)).toNat))] [(RV.d (DV.bool (decide ((Nat.cast (R := Int) (List.length s)) < (Nat.cast (R := Int) a)))), RV.d (DV.bool false)), (RV.d (DV.int Go.IntKind.i64 (Go.IntKind.i64.wrap ((Nat.cast (R := Int) a) + (Nat.cast (R := Int) m)))), RV.d (DV.int Go.IntKind.i64 (Nat.cast (R := Int) (a + m)))), (RV.d (DV.bool (decide ((Nat.cast (R := Int) (List.length s)) < (Nat.cast (R := Int) (a + m))))), RV.d (DV.bool false)), (RV.d (DV.int Go.IntKind.i64 (Go.IntKind.i64.wrap ((Nat.cast (R := Int) a) + (Nat.cast (R := Int) m)))), RV.d (DV.int Go.IntKind.i64 (Nat.cast (R := Int) (a + m))))] rfl (by kernel_rfl : runEnd (cfT []) true _ 1000 0 _ _ (ini 26 [.d (.str s), .d (.int .i64 (a : Int)), .d (.int .i64 (m : Int))] []) = some (RV.d (DV.str (cutL s (Option.some (Nat.cast (R := Int) a)) (Option.some (Nat.cast (R := Int) (a + m))))), [], _, _)) (by refine ⟨?_, ?_, trivial⟩ <;> (exact decide_eq_true (by first | (have := of_decide_eq_false h10; omega) | (have := of_decide_eq_false h10; have := of_decide_eq_false h16; omega)))) (by refine ⟨le_bool h10, ?_, le_bool h16, ?_, trivial⟩ <;> ((refine .of_eq ?_; rw [i64_in _ (by omega)]; exact congrArg (fun x : Int => RV.d (.int .i64 x)) (by omega)))) ⟨by first | (rw [part_all (of_decide_eq_true h16)]; done) | (rw [part_cut]; done) | (rw [part_nil (of_decide_eq_true h10)]; done), rfl⟩
def partEn : Ent := fun x o => match x, o with
  | [.d (.str s), .d (.int .i64 a), .d (.int .i64 m)], [] => some (.d (.str (partR s a.toNat m)), [], [decide (0 ≤ a ∧ a ≤ 1000000), decide (0 ≤ m ∧ m ≤ 1000000)])
  | _, _ => none
theorem part_ent : EntOk Try.prog 77 partEn := by
  intro x o r o' c hg hc
  unfold partEn at hg
  split at hg
  · rename_i s a m
    simp only [Option.some.injEq, Prod.mk.injEq] at hg
    obtain ⟨rfl, rfl, rfl⟩ := hg
    have h1 : 0 ≤ a ∧ a ≤ 1000000 := of_decide_eq_true (hc _ (by simp))
    have h2 : 0 ≤ m ∧ m ≤ 1000000 := of_decide_eq_true (hc _ (by simp))
    have := part_c s a.toNat m.toNat (by omega) (by omega)
    rw [Int.toNat_of_nonneg h1.1, Int.toNat_of_nonneg h2.1] at this
    exact this
  · cases hg
noncomputable def tpB : List (Nat × Ent) := (76, valEn) :: (77, partEn) :: (29, e2 sameEn) :: tpA
theorem tpB_ok : EntsOk Try.prog tpB := .cons val_ent (.cons part_ent (.cons same_ent tpA_ok))
end Go.Proofs.Ytchmeldlpoimnaa
