/-
  The law NodeTakes, run.
-/
import Derived.Test.YtchmeldlpoimnaaAmQ4
namespace Go.Proofs.Ytchmeldlpoimnaa
open Go.RowKit Am IntWalk
set_option maxRecDepth 100000
set_option linter.unusedVariables false
set_option linter.unusedSimpArgs false

theorem takes_c (s : Bs) : C Try.prog 7 [.d (.str s)] [] (fun r o => r = .d (.bool true) ∧ o = []) := by
  have ok := cfT_ok tpD_ok
  refine C_of_run (fn := Try.f7) (body := Try.f7.body.getD .skip) true (by kernel_rfl) (by kernel_rfl) (by kernel_rfl) ?_
  obtain ⟨M, hM⟩ : ∃ x, (takeBy parseN s).1 = x := ⟨_, rfl⟩
  obtain ⟨e, he⟩ : ∃ x, (takeBy parseN s).2 = x := ⟨_, rfl⟩
  have hml : decide (4096 < (Nat.cast (R := Int) (List.length s))) = false → M.cells.length ≤ 500000 := fun h => by
    rcases takeBy_cases parseN s with h1 | ⟨Q, h1, h2⟩
    · rw [← hM, h1]; exact Nat.zero_le _
    · have h3 : Q = parseN s := by
        have : (takeBy parseN s).1 = parseN s ∨ (takeBy parseN s).2 = 7 := by unfold takeBy; split <;> simp
        rw [h1] at this
        rcases this with h | h
        · exact h
        · cases h
      rw [← hM, h1, h3]
      exact (parse_nok s (by have := of_decide_eq_false h; omega)).2.1
  rcases Bool.eq_false_or_eq_true (decide (4096 < (Nat.cast (R := Int) (List.length s))) : Bool) with h11 | h11
  · skip
    exact WK.fin ok 3000 0 [(14, RV.tup [RV.d (DV.agg [DV.int Go.IntKind.u8 M.1, DV.int Go.IntKind.i64 M.2, DV.lst 4 (List.map cD M.3) false, DV.str M.4]), RV.d (DV.int Go.IntKind.i64 e)]), (19, RV.tup [RV.d (DV.agg [DV.int Go.IntKind.u8 M.1, DV.int Go.IntKind.i64 M.2, DV.lst 4 (List.map cD M.3) false, DV.str M.4]), RV.d (DV.int Go.IntKind.i64 e)]), (28, RV.d (DV.bool true)), (11, RV.d (DV.bool true))] [] [(RV.d (DV.bool (decide (4096 < (Nat.cast (R := Int) (List.length s))))), RV.d (DV.bool true))] rfl (by kernel_rfl : runEnd (cfT tpD) true _ 3000 0 _ _ (ini 30 [.d (.str s)] []) = some (RV.d (DV.bool true), [], _, _)) trivial ⟨le_bool h11, trivial⟩ ⟨by first | rfl | simp, rfl⟩
  · skip
    exact WK.fin ok 3000 0 [(14, RV.tup [RV.d (DV.agg [DV.int Go.IntKind.u8 M.1, DV.int Go.IntKind.i64 M.2, DV.lst 4 (List.map cD M.3) false, DV.str M.4]), RV.d (DV.int Go.IntKind.i64 e)]), (19, RV.tup [RV.d (DV.agg [DV.int Go.IntKind.u8 M.1, DV.int Go.IntKind.i64 M.2, DV.lst 4 (List.map cD M.3) false, DV.str M.4]), RV.d (DV.int Go.IntKind.i64 e)]), (28, RV.d (DV.bool true)), (11, RV.d (DV.bool false))] [decide (List.length s ≤ 4096), decide (List.length s ≤ 4096), isNod (DV.agg [DV.int Go.IntKind.u8 M.1, DV.int Go.IntKind.i64 M.2, DV.lst 4 (List.map cD M.3) false, DV.str M.4]), isNod (DV.agg [DV.int Go.IntKind.u8 M.1, DV.int Go.IntKind.i64 M.2, DV.lst 4 (List.map cD M.3) false, DV.str M.4]), eqN { kind := M.1, first := M.2, cells := List.map toCel (List.map cD M.cells), data := M.4 } { kind := M.1, first := M.2, cells := List.map toCel (List.map cD M.cells), data := M.4 }, decide ((toNod (DV.agg [DV.int Go.IntKind.u8 M.kind, DV.int Go.IntKind.i64 M.first, DV.lst (4) (List.map cD M.cells) false, DV.str M.data])).cells.length ≤ 500000)] [(RV.d (DV.bool (decide (4096 < (Nat.cast (R := Int) (List.length s))))), RV.d (DV.bool false)), (RV.tup [RV.d (DV.agg [DV.int Go.IntKind.u8 (takeBy parseN s).fst.1, DV.int Go.IntKind.i64 (takeBy parseN s).fst.2, DV.lst 4 (List.map cD (takeBy parseN s).fst.3) false, DV.str (takeBy parseN s).fst.4]), RV.d (DV.int Go.IntKind.i64 (takeBy parseN s).2)], RV.tup [RV.d (DV.agg [DV.int Go.IntKind.u8 M.1, DV.int Go.IntKind.i64 M.2, DV.lst 4 (List.map cD M.3) false, DV.str M.4]), RV.d (DV.int Go.IntKind.i64 e)]), (RV.tup [RV.d (DV.agg [DV.int Go.IntKind.u8 (takeBy parseR s).fst.1, DV.int Go.IntKind.i64 (takeBy parseR s).fst.2, DV.lst 4 (List.map cD (takeBy parseR s).fst.3) false, DV.str (takeBy parseR s).fst.4]), RV.d (DV.int Go.IntKind.i64 (takeBy parseR s).2)], RV.tup [RV.d (DV.agg [DV.int Go.IntKind.u8 M.1, DV.int Go.IntKind.i64 M.2, DV.lst 4 (List.map cD M.3) false, DV.str M.4]), RV.d (DV.int Go.IntKind.i64 e)]), (RV.d (DV.bool (e == e)), RV.d (DV.bool true))] rfl (by kernel_rfl : runEnd (cfT tpD) true _ 3000 0 _ _ (ini 30 [.d (.str s)] []) = some (RV.d (DV.bool true), [], _, _)) (by refine ⟨?_, ?_, ?_, ?_, ?_, ?_, trivial⟩ <;> (first | exact isNod_nD M | exact decide_eq_true (by first | (have := of_decide_eq_false h11; omega) | (have := hml h11; rw [toNod_nD]; exact this)) | exact eqN_refl _ | exact decide_eq_true (by have := hml h11; rw [show toNod (DV.agg [DV.int .u8 M.kind, DV.int .i64 M.first, DV.lst 4 (List.map cD M.cells) false, DV.str M.data]) = M from toNod_nD M]; exact this))) (by refine ⟨le_bool h11, ?_, ?_, ?_, trivial⟩ <;> (first | (refine .of_eq ?_; rw [hM, he]; done) | (refine .of_eq ?_; rw [take_eq, hM, he]; done) | (refine .of_eq ?_; simp; done))) ⟨by first | rfl | simp, rfl⟩
end Go.Proofs.Ytchmeldlpoimnaa
