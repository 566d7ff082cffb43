/-
  The closures of rebase.Upon and rebase.Meets.
-/
import Derived.Test.YtljfolepmkcjlaaC5
namespace Go.Proofs.Ytljfolepmkcjlaa
open Go.RowKit Plain Am IntWalk
set_option maxRecDepth 100000
set_option linter.unusedVariables false
set_option linter.unusedSimpArgs false

noncomputable abbrev cuC : Code := bodyOf Try.f32
noncomputable abbrev cmC : Code := bodyOf Try.f37
noncomputable abbrev meC : Code := bodyOf Try.f31
noncomputable abbrev upC : Code := bodyOf Try.f12
noncomputable abbrev msC : Code := bodyOf Try.f14
def upO (win : Bool) (out : List DV) : List PObj := [.box 4 [.d (.bool win)], .box 22 [.own 2 4], .arr 46 4 out]
def upO0 (win : Bool) : List PObj := [.box 4 [.d (.bool win)], .box 22 [.d (.lst 0 [] true)]]
def meO (out : List DV) : List PObj := [.box 22 [.own 1 4], .arr 46 4 out]
def meO0 : List PObj := [.box 22 [.d (.lst 0 [] true)]]
def cloUv : RV := .clo (.func 32) [] [.ptr 0 0, .ptr 1 0]
def cloMv : RV := .clo (.func 37) [] [.ptr 0 0]
theorem bd_app6 {out : List DV} {z : DV} (h : out.length ≤ 1000000) : decide ((out.length + [z].length) * 88 ≤ 2 ^ 38) = true := decide_eq_true (by simp only [List.length_singleton]; omega)
theorem cu_nil (x : Chg) (win : Bool) (out : List DV) (ho : out.length ≤ 1000000) : C Try.prog 32 [.d (chD x), .d .nilp, .ptr 0 0, .ptr 1 0] (upO win out) (fun r o => r = .tup [] ∧ o = [.box 4 [.d (.bool win)], .box 22 [.own 3 4], .gone, .arr 46 4 (out ++ [chD x])]) := by
  have ok := cfT_ok t2_ok
  refine C_of_run (fn := Try.f32) (body := cuC) true (by kernel_rfl) (by kernel_rfl) (by kernel_rfl) ?_
  exact WK.fin ok 1000 0 [] [decide ((out.length + [DV.agg [DV.str x.t, rD x.k, rD x.o, rD x.n]].length) * 88 ≤ 2 ^ 38)] [] rfl (by kernel_rfl : runEnd (cfT t2) true _ 1000 0 _ _ (ini 28 [.d (chD x), .d .nilp, .ptr 0 0, .ptr 1 0] (upO win out)) = some (RV.tup [], [PObj.box 4 [RV.d (DV.bool win)], PObj.box 22 [RV.own 3 4], PObj.gone, PObj.arr 46 4 (out ++ [DV.agg [DV.str x.1, DV.lst 3 (List.map vD x.2) false, DV.lst 3 (List.map vD x.3) false, DV.lst 3 (List.map vD x.4) false]])], _, _)) ⟨(by exact bd_app6 ho), trivial⟩ trivial ⟨rfl, rfl⟩
theorem cu_yes (x y : Chg) (hx : Chg.ok x) (hy : Chg.ok y) (out : List DV) (ho : out.length ≤ 1000000) (hn : x.n ≠ y.n) : C Try.prog 32 [.d (chD x), .iptr (chD y) 0, .ptr 0 0, .ptr 1 0] (upO true out) (fun r o => r = .tup [] ∧ o = [.box 4 [.d (.bool true)], .box 22 [.own 3 4], .gone, .arr 46 4 (out ++ [chD ⟨x.t, x.k, y.n, x.n⟩])]) := by
  have ok := cfT_ok t2_ok
  refine C_of_run (fn := Try.f32) (body := cuC) true (by kernel_rfl) (by kernel_rfl) (by kernel_rfl) ?_
  rcases Bool.eq_false_or_eq_true (decide (x.n = y.n) : Bool) with h23 | h23
  · skip
    exact WK.fin ok 1000 0 [(15, RV.d (DV.bool false)), (22, RV.d (DV.bool (decide (x.n = y.n)))), (23, RV.d (DV.bool true))] [isR (DV.lst 3 (List.map vD x.4) false), isR (DV.lst 3 (List.map vD y.4) false)] [(RV.d (DV.bool false), RV.d (DV.bool false)), (RV.d (DV.bool (decide (unR (rD x.n) = unR ((chD y).cells.getD 3 DV.nilp)))), RV.d (DV.bool (decide (x.n = y.n)))), (RV.d (DV.bool (decide (x.n = y.n))), RV.d (DV.bool true))] rfl (by kernel_rfl : runEnd (cfT t2) true _ 1000 0 _ _ (ini 28 [.d (chD x), .iptr (chD y) 0, .ptr 0 0, .ptr 1 0] (upO true out)) = some (RV.tup [], [PObj.box 4 [RV.d (DV.bool true)], PObj.box 22 [RV.own 2 4], PObj.arr 46 4 out], _, _)) (by refine ⟨?_, ?_, trivial⟩ <;> (first | exact ok_n hx | exact ok_n hy | exact bd_app6 ho)) (by refine ⟨?_, ?_, le_bool h23, trivial⟩ <;> (first | exact le_bool rfl | exact ov_E x.n y.n)) (by first | exact absurd (of_decide_eq_true h23) hn | exact ⟨rfl, rfl⟩)
  · skip
    exact WK.fin ok 1000 0 [(15, RV.d (DV.bool false)), (22, RV.d (DV.bool (decide (x.n = y.n)))), (23, RV.d (DV.bool false))] [isR (DV.lst 3 (List.map vD x.4) false), isR (DV.lst 3 (List.map vD y.4) false), decide ((out.length + [DV.agg [DV.str x.t, rD x.k, (chD y).cells.getD 3 DV.nilp, rD x.n]].length) * 88 ≤ 2 ^ 38)] [(RV.d (DV.bool false), RV.d (DV.bool false)), (RV.d (DV.bool (decide (unR (rD x.n) = unR ((chD y).cells.getD 3 DV.nilp)))), RV.d (DV.bool (decide (x.n = y.n)))), (RV.d (DV.bool (decide (x.n = y.n))), RV.d (DV.bool false))] rfl (by kernel_rfl : runEnd (cfT t2) true _ 1000 0 _ _ (ini 28 [.d (chD x), .iptr (chD y) 0, .ptr 0 0, .ptr 1 0] (upO true out)) = some (RV.tup [], [PObj.box 4 [RV.d (DV.bool true)], PObj.box 22 [RV.own 3 4], PObj.gone, PObj.arr 46 4 (out ++ [DV.agg [DV.str x.1, DV.lst 3 (List.map vD x.2) false, DV.lst 3 (List.map vD y.4) false, DV.lst 3 (List.map vD x.4) false]])], _, _)) (by refine ⟨?_, ?_, ?_, trivial⟩ <;> (first | exact ok_n hx | exact ok_n hy | exact bd_app6 ho)) (by refine ⟨?_, ?_, le_bool h23, trivial⟩ <;> (first | exact le_bool rfl | exact ov_E x.n y.n)) (by first | exact absurd (of_decide_eq_true h23) hn | exact ⟨rfl, rfl⟩)
theorem cu_same (x y : Chg) (hx : Chg.ok x) (hy : Chg.ok y) (out : List DV) (hn : x.n = y.n) : C Try.prog 32 [.d (chD x), .iptr (chD y) 0, .ptr 0 0, .ptr 1 0] (upO true out) (fun r o => r = .tup [] ∧ o = upO true out) := by
  have ok := cfT_ok t2_ok
  have h23 : decide (x.n = y.n) = true := decide_eq_true hn
  refine C_of_run (fn := Try.f32) (body := cuC) true (by kernel_rfl) (by kernel_rfl) (by kernel_rfl) ?_
  exact WK.fin ok 2000 0 [(15, .d (.bool false)), (22, .d (.bool (decide (x.n = y.n)))), (23, .d (.bool true))] [isR (rD x.n), isR (rD y.n)] [(.d (.bool false), .d (.bool false)), (.d (.bool (decide (unR (rD x.n) = unR (rD y.n)))), .d (.bool (decide (x.n = y.n)))), (.d (.bool (decide (x.n = y.n))), .d (.bool true))] rfl (by kernel_rfl : runEnd (cfT t2) true _ 2000 0 _ _ (ini 28 [.d (chD x), .iptr (chD y) 0, .ptr 0 0, .ptr 1 0] (upO true out)) = some (.tup [], upO true out, _, _)) ⟨ok_n hx, ok_n hy, trivial⟩ ⟨le_bool rfl, ov_E _ _, le_bool h23, trivial⟩ ⟨rfl, rfl⟩
theorem cu_not (x y : Chg) (out : List DV) : C Try.prog 32 [.d (chD x), .iptr (chD y) 0, .ptr 0 0, .ptr 1 0] (upO false out) (fun r o => r = .tup [] ∧ o = upO false out) := by
  have ok := cfT_ok t2_ok
  refine C_of_run (fn := Try.f32) (body := cuC) true (by kernel_rfl) (by kernel_rfl) (by kernel_rfl) ?_
  exact WK.fin ok 1000 0 [] [] [] rfl (by kernel_rfl : runEnd (cfT t2) true _ 1000 0 _ _ (ini 28 [.d (chD x), .iptr (chD y) 0, .ptr 0 0, .ptr 1 0] (upO false out)) = some (RV.tup [], [PObj.box 4 [RV.d (DV.bool false)], PObj.box 22 [RV.own 2 4], PObj.arr 46 4 out], _, _)) trivial trivial ⟨rfl, rfl⟩
theorem cm_nil (x : Chg) (out : List DV) : C Try.prog 37 [.d (chD x), .d .nilp, .ptr 0 0] (meO out) (fun r o => r = .tup [] ∧ o = meO out) := by
  have ok := cfT_ok t2_ok
  refine C_of_run (fn := Try.f37) (body := cmC) true (by kernel_rfl) (by kernel_rfl) (by kernel_rfl) ?_
  exact WK.fin ok 1000 0 [] [] [] rfl (by kernel_rfl : runEnd (cfT t2) true _ 1000 0 _ _ (ini 21 [.d (chD x), .d .nilp, .ptr 0 0] (meO out)) = some (RV.tup [], [PObj.box 22 [RV.own 1 4], PObj.arr 46 4 out], _, _)) trivial trivial ⟨rfl, rfl⟩
theorem cm_yes (x y : Chg) (hx : Chg.ok x) (hy : Chg.ok y) (out : List DV) (ho : out.length ≤ 1000000) (hn : x.n ≠ y.n) : C Try.prog 37 [.d (chD x), .iptr (chD y) 0, .ptr 0 0] (meO out) (fun r o => r = .tup [] ∧ o = [.box 22 [.own 2 4], .gone, .arr 46 4 (out ++ [chD x])]) := by
  have ok := cfT_ok t2_ok
  refine C_of_run (fn := Try.f37) (body := cmC) true (by kernel_rfl) (by kernel_rfl) (by kernel_rfl) ?_
  rcases Bool.eq_false_or_eq_true (!decide (x.n = y.n) : Bool) with h16 | h16
  · skip
    exact WK.fin ok 1000 0 [(7, RV.d (DV.bool true)), (14, RV.d (DV.bool (decide (x.n = y.n)))), (16, RV.d (DV.bool true))] [isR (DV.lst 3 (List.map vD x.4) false), isR (DV.lst 3 (List.map vD y.4) false), decide ((out.length + [DV.agg [DV.str x.t, rD x.k, rD x.o, rD x.n]].length) * 88 ≤ 2 ^ 38)] [(RV.d (DV.bool true), RV.d (DV.bool true)), (RV.d (DV.bool (decide (unR (rD x.n) = unR ((chD y).cells.getD 3 DV.nilp)))), RV.d (DV.bool (decide (x.n = y.n)))), (RV.d (DV.bool !decide (x.n = y.n)), RV.d (DV.bool true))] rfl (by kernel_rfl : runEnd (cfT t2) true _ 1000 0 _ _ (ini 21 [.d (chD x), .iptr (chD y) 0, .ptr 0 0] (meO out)) = some (RV.tup [], [PObj.box 22 [RV.own 2 4], PObj.gone, PObj.arr 46 4 (out ++ [DV.agg [DV.str x.1, DV.lst 3 (List.map vD x.2) false, DV.lst 3 (List.map vD x.3) false, DV.lst 3 (List.map vD x.4) false]])], _, _)) (by refine ⟨?_, ?_, ?_, trivial⟩ <;> (first | exact ok_n hx | exact ok_n hy | exact bd_app6 ho)) (by refine ⟨?_, ?_, le_bool h16, trivial⟩ <;> (first | exact le_bool rfl | exact ov_E x.n y.n)) (by first | exact ⟨rfl, rfl⟩ | exact absurd (by simpa using h16) hn)
  · skip
    exact WK.fin ok 1000 0 [(7, RV.d (DV.bool true)), (14, RV.d (DV.bool (decide (x.n = y.n)))), (16, RV.d (DV.bool false))] [isR (DV.lst 3 (List.map vD x.4) false), isR (DV.lst 3 (List.map vD y.4) false)] [(RV.d (DV.bool true), RV.d (DV.bool true)), (RV.d (DV.bool (decide (unR (rD x.n) = unR ((chD y).cells.getD 3 DV.nilp)))), RV.d (DV.bool (decide (x.n = y.n)))), (RV.d (DV.bool !decide (x.n = y.n)), RV.d (DV.bool false))] rfl (by kernel_rfl : runEnd (cfT t2) true _ 1000 0 _ _ (ini 21 [.d (chD x), .iptr (chD y) 0, .ptr 0 0] (meO out)) = some (RV.tup [], [PObj.box 22 [RV.own 1 4], PObj.arr 46 4 out], _, _)) (by refine ⟨?_, ?_, trivial⟩ <;> (first | exact ok_n hx | exact ok_n hy | exact bd_app6 ho)) (by refine ⟨?_, ?_, le_bool h16, trivial⟩ <;> (first | exact le_bool rfl | exact ov_E x.n y.n)) (by first | exact ⟨rfl, rfl⟩ | exact absurd (by simpa using h16) hn)
theorem cm_same (x y : Chg) (hx : Chg.ok x) (hy : Chg.ok y) (out : List DV) (hn : x.n = y.n) : C Try.prog 37 [.d (chD x), .iptr (chD y) 0, .ptr 0 0] (meO out) (fun r o => r = .tup [] ∧ o = meO out) := by
  have ok := cfT_ok t2_ok
  have h16 : (!decide (x.n = y.n)) = false := by rw [decide_eq_true hn]; rfl
  refine C_of_run (fn := Try.f37) (body := cmC) true (by kernel_rfl) (by kernel_rfl) (by kernel_rfl) ?_
  exact WK.fin ok 2000 0 [(7, .d (.bool true)), (14, .d (.bool (decide (x.n = y.n)))), (16, .d (.bool false))] [isR (rD x.n), isR (rD y.n)] [(.d (.bool true), .d (.bool true)), (.d (.bool (decide (unR (rD x.n) = unR (rD y.n)))), .d (.bool (decide (x.n = y.n)))), (.d (.bool (!decide (x.n = y.n))), .d (.bool false))] rfl (by kernel_rfl : runEnd (cfT t2) true _ 2000 0 _ _ (ini 21 [.d (chD x), .iptr (chD y) 0, .ptr 0 0] (meO out)) = some (.tup [], meO out, _, _)) ⟨ok_n hx, ok_n hy, trivial⟩ ⟨le_bool rfl, ov_E _ _, le_bool h16, trivial⟩ ⟨rfl, rfl⟩

theorem upF_yes {win : Bool} {x y : Chg} (h : isS (upF win (x, some y)) = true) : win = true ∧ x.n ≠ y.n ∧ gF (upF win (x, some y)) = ⟨x.t, x.k, y.n, x.n⟩ := by
  by_cases hc : win = true ∧ x.n ≠ y.n
  · exact ⟨hc.1, hc.2, by simp [upF, gF, hc]⟩
  · simp only [upF, if_neg hc, isS] at h; cases h
theorem upF_no {win : Bool} {x y : Chg} (h : isN (upF win (x, some y)) = true) : win = false ∨ x.n = y.n := by
  by_cases hc : win = true ∧ x.n ≠ y.n
  · simp only [upF, if_pos hc, isN] at h; cases h
  · by_cases hw : win = true
    · right; by_cases hn : x.n = y.n
      · exact hn
      · exact absurd ⟨hw, hn⟩ hc
    · left; simpa using hw
theorem meF_yes {x y : Chg} (h : isS (meF (x, some y)) = true) : x.n ≠ y.n ∧ gF (meF (x, some y)) = x := by
  by_cases hc : x.n ≠ y.n
  · exact ⟨hc, by simp [meF, gF, hc]⟩
  · simp only [meF, if_neg hc, isS] at h; cases h
theorem meF_no {x y : Chg} (h : isN (meF (x, some y)) = true) : x.n = y.n := by
  by_cases hc : x.n ≠ y.n
  · simp only [meF, if_pos hc, isN] at h; cases h
  · simpa using hc

theorem cloU_ent (yes : Bool) : EntOk Try.prog 32 (cloU yes) := by
  intro a o r o' c hg hc
  unfold cloU at hg
  split at hg
  · rename_i x y b win l T els
    split at hg
    · simp only [Option.some.injEq, Prod.mk.injEq] at hg
      obtain ⟨rfl, rfl, rfl⟩ := hg
      have hb := nbE (hc (Nat.beq b 4) (by simp))
      have hl := nbE (hc (Nat.beq l 22) (by simp))
      have hT := nbE (hc (Nat.beq T 46) (by simp))
      have hn := of_decide_eq_true (hc (decide (els.length ≤ 1000000)) (by simp))
      subst hb hl hT
      obtain ⟨x, rfl, hx⟩ := isC_spec (hc (isC x) (by simp))
      exact cu_nil x win els hn
    · rename_i yd
      split at hg
      · simp only [Option.some.injEq, Prod.mk.injEq] at hg
        obtain ⟨rfl, rfl, rfl⟩ := hg
        have hb := nbE (hc (Nat.beq b 4) (by simp))
        have hl := nbE (hc (Nat.beq l 22) (by simp))
        have hT := nbE (hc (Nat.beq T 46) (by simp))
        have hn := of_decide_eq_true (hc (decide (els.length ≤ 1000000)) (by simp))
        have hS := hc (isS (upF win (toChg x, some (toChg yd)))) (by simp)
        subst hb hl hT
        obtain ⟨x, rfl, hx⟩ := isC_spec (hc (isC x) (by simp))
        obtain ⟨y, rfl, hy⟩ := isC_spec (hc (isC yd) (by simp))
        rw [toChg_chD, toChg_chD] at hS
        obtain ⟨rfl, h2, h3⟩ := upF_yes hS
        rw [toChg_chD, toChg_chD, h3]
        exact cu_yes x y hx hy els hn h2
      · simp only [Option.some.injEq, Prod.mk.injEq] at hg
        obtain ⟨rfl, rfl, rfl⟩ := hg
        have hb := nbE (hc (Nat.beq b 4) (by simp))
        have hl := nbE (hc (Nat.beq l 22) (by simp))
        have hT := nbE (hc (Nat.beq T 46) (by simp))
        have hS := hc (isN (upF win (toChg x, some (toChg yd)))) (by simp)
        subst hb hl hT
        obtain ⟨x, rfl, hx⟩ := isC_spec (hc (isC x) (by simp))
        obtain ⟨y, rfl, hy⟩ := isC_spec (hc (isC yd) (by simp))
        rw [toChg_chD, toChg_chD] at hS
        cases win with
        | false => exact cu_not x y els
        | true =>
          rcases upF_no hS with h | h
          · cases h
          · exact cu_same x y hx hy els h
    · cases hg
  · cases hg
theorem cloM_ent (yes : Bool) : EntOk Try.prog 37 (cloM yes) := by
  intro a o r o' c hg hc
  unfold cloM at hg
  split at hg
  · rename_i x y l T els
    split at hg
    · simp only [Option.some.injEq, Prod.mk.injEq] at hg
      obtain ⟨rfl, rfl, rfl⟩ := hg
      have hl := nbE (hc (Nat.beq l 22) (by simp))
      have hT := nbE (hc (Nat.beq T 46) (by simp))
      subst hl hT
      obtain ⟨x, rfl, hx⟩ := isC_spec (hc (isC x) (by simp))
      exact cm_nil x els
    · rename_i yd
      split at hg
      · simp only [Option.some.injEq, Prod.mk.injEq] at hg
        obtain ⟨rfl, rfl, rfl⟩ := hg
        have hl := nbE (hc (Nat.beq l 22) (by simp))
        have hT := nbE (hc (Nat.beq T 46) (by simp))
        have hn := of_decide_eq_true (hc (decide (els.length ≤ 1000000)) (by simp))
        have hS := hc (isS (meF (toChg x, some (toChg yd)))) (by simp)
        subst hl hT
        obtain ⟨x, rfl, hx⟩ := isC_spec (hc (isC x) (by simp))
        obtain ⟨y, rfl, hy⟩ := isC_spec (hc (isC yd) (by simp))
        rw [toChg_chD, toChg_chD] at hS
        obtain ⟨h2, h3⟩ := meF_yes hS
        rw [toChg_chD, toChg_chD, h3]
        exact cm_yes x y hx hy els hn h2
      · simp only [Option.some.injEq, Prod.mk.injEq] at hg
        obtain ⟨rfl, rfl, rfl⟩ := hg
        have hl := nbE (hc (Nat.beq l 22) (by simp))
        have hT := nbE (hc (Nat.beq T 46) (by simp))
        have hS := hc (isN (meF (toChg x, some (toChg yd)))) (by simp)
        subst hl hT
        obtain ⟨x, rfl, hx⟩ := isC_spec (hc (isC x) (by simp))
        obtain ⟨y, rfl, hy⟩ := isC_spec (hc (isC yd) (by simp))
        rw [toChg_chD, toChg_chD] at hS
        exact cm_same x y hx hy els (meF_no hS)
    · cases hg
  · cases hg
noncomputable def tc (b : Bool) : List (Nat × Ent) := (32, cloU b) :: (37, cloM b) :: (59, e2 ccG) :: (17, e1 ckG) :: t2
theorem tc_ok (b : Bool) : EntsOk Try.prog (tc b) := .cons (cloU_ent b) (.cons (cloM_ent b) (.cons (ccG_ent ro_c) (.cons ck_ent t2_ok)))
noncomputable def tcY : List (Nat × Ent) := tc true
noncomputable def tcN : List (Nat × Ent) := tc false
theorem tcY_ok : EntsOk Try.prog tcY := tc_ok true
theorem tcN_ok : EntsOk Try.prog tcN := tc_ok false
end Go.Proofs.Ytljfolepmkcjlaa
