/-
  Texts that the claim leans on, one behind the other, part 6.
-/
import Derived.Test.YtljfolepmkcjlaaXc5
import Derived.Test.YtljfolepmkcjlaaRows

/-
  Whether two changesets are the same.
-/
namespace Go.Proofs.Ytljfolepmkcjlaa
open Go.RowKit Plain Am IntWalk
set_option maxRecDepth 100000
set_option linter.unusedVariables false
set_option linter.unusedSimpArgs false

theorem chg_ext {x y : Chg} (h1 : x.t = y.t) (h2 : x.k = y.k) (h3 : x.o = y.o) (h4 : x.n = y.n) : x = y := by
  cases x; cases y; simp only at h1 h2 h3 h4; subst h1 h2 h3 h4; rfl
theorem sa_c (a b : List Chg) (ha : okL a) (hb : okL b) : C Try.prog 16 [.d (chL a), .d (chL b)] [] (fun r o => r = .d (.bool (decide (a = b))) ∧ o = []) := by
  have ok := cfT_ok t2_ok
  refine C_of_run (fn := Try.f16) (body := saC) true (by kernel_rfl) (by kernel_rfl) (by kernel_rfl) ?_
  have hal := ha.1
  have hloop : a.length = b.length → WK Try.prog 0 (stackAt saC 0) (saS (a.map chD) (b.map chD) 0).den (Ends (Try.f16.results.toList) (.d (.bool (decide (a = b))))) := by
    intro hlen
    refine WK.rec' (fun i => saS (a.map chD) (b.map chD) i) (fun i => i ≤ a.length ∧ a.take i = b.take i) (fun i => a.length - i) ?_ 0 ⟨Nat.zero_le _, rfl⟩
    rintro i ⟨hi, ht⟩ ih
    obtain ⟨x, hx⟩ := at_chg a i
    obtain ⟨y, hy⟩ := at_chg b i
    have hb2 : i < a.length → i < b.length := fun h => by omega
    have hxo : i < a.length → Chg.ok x := fun h => by rw [← hx h]; exact ha.2 _ (List.getElem_mem h)
    have hyo : i < a.length → Chg.ok y := fun h => by rw [← hy (hb2 h)]; exact hb.2 _ (List.getElem_mem (hb2 h))
    have hend : decide ((Nat.cast (R := Int) i) < (Nat.cast (R := Int) (a.map chD).length)) = false → decide (a = b) = true := fun h => by
      have e := ge_map h
      rw [List.take_of_length_le e, List.take_of_length_le (by omega)] at ht
      exact decide_eq_true ht
    have hno : i < a.length → x ≠ y → decide (a = b) = false := fun h hne => by
      refine decide_eq_false ?_
      rintro rfl
      exact hne ((hx h).symm.trans (hy h))
    by_cases c1 : x.t = y.t
    · by_cases c2 : x.k = y.k
      · by_cases c3 : x.o = y.o
        · skip
          rcases Bool.eq_false_or_eq_true (decide ((Nat.cast (R := Int) i) < (Nat.cast (R := Int) (a.map chD).length)) : Bool) with h14 | h14
          · skip
            rcases Bool.eq_false_or_eq_true (!decide (x.n = y.n) : Bool) with h69 | h69
            · skip
              exact WK.fin ok 1000 0 [(19, RV.iptr (DV.agg [DV.str x.1, DV.lst 3 (List.map vD x.2) false, DV.lst 3 (List.map vD x.3) false, DV.lst 3 (List.map vD x.4) false]) 0), (24, RV.iptr (DV.agg [DV.str y.1, DV.lst 3 (List.map vD y.2) false, DV.lst 3 (List.map vD y.3) false, DV.lst 3 (List.map vD y.4) false]) 0), (27, RV.d (DV.bool false)), (28, RV.d (DV.bool false)), (42, RV.d (DV.bool false)), (56, RV.d (DV.bool false)), (31, RV.iptr (DV.agg [DV.str x.1, DV.lst 3 (List.map vD x.2) false, DV.lst 3 (List.map vD x.3) false, DV.lst 3 (List.map vD x.4) false]) 0), (36, RV.iptr (DV.agg [DV.str y.1, DV.lst 3 (List.map vD y.2) false, DV.lst 3 (List.map vD y.3) false, DV.lst 3 (List.map vD y.4) false]) 0), (39, RV.d (DV.bool true)), (45, RV.iptr (DV.agg [DV.str x.1, DV.lst 3 (List.map vD x.2) false, DV.lst 3 (List.map vD x.3) false, DV.lst 3 (List.map vD x.4) false]) 0), (50, RV.iptr (DV.agg [DV.str y.1, DV.lst 3 (List.map vD y.2) false, DV.lst 3 (List.map vD y.3) false, DV.lst 3 (List.map vD y.4) false]) 0), (53, RV.d (DV.bool true)), (59, RV.iptr (DV.agg [DV.str x.1, DV.lst 3 (List.map vD x.2) false, DV.lst 3 (List.map vD x.3) false, DV.lst 3 (List.map vD x.4) false]) 0), (64, RV.iptr (DV.agg [DV.str y.1, DV.lst 3 (List.map vD y.2) false, DV.lst 3 (List.map vD y.3) false, DV.lst 3 (List.map vD y.4) false]) 0), (67, RV.d (DV.bool (decide (x.n = y.n)))), (16, RV.d (DV.int Go.IntKind.i64 (Nat.cast (R := Int) (i + 1)))), (14, RV.d (DV.bool true)), (69, RV.d (DV.bool true))] [decide (0 ≤ (Nat.cast (R := Int) i) ∧ (Nat.cast (R := Int) i) < (Nat.cast (R := Int) (a.map chD).length)), decide (0 ≤ (Nat.cast (R := Int) i) ∧ (Nat.cast (R := Int) i) < (Nat.cast (R := Int) (b.map chD).length)), decide (0 ≤ (Nat.cast (R := Int) i) ∧ (Nat.cast (R := Int) i) < (Nat.cast (R := Int) (a.map chD).length)), decide (0 ≤ (Nat.cast (R := Int) i) ∧ (Nat.cast (R := Int) i) < (Nat.cast (R := Int) (b.map chD).length)), isR (DV.lst 3 (List.map vD x.2) false), isR (DV.lst 3 (List.map vD y.2) false), decide (0 ≤ (Nat.cast (R := Int) i) ∧ (Nat.cast (R := Int) i) < (Nat.cast (R := Int) (a.map chD).length)), decide (0 ≤ (Nat.cast (R := Int) i) ∧ (Nat.cast (R := Int) i) < (Nat.cast (R := Int) (b.map chD).length)), isR (DV.lst 3 (List.map vD x.3) false), isR (DV.lst 3 (List.map vD y.3) false), decide (0 ≤ (Nat.cast (R := Int) i) ∧ (Nat.cast (R := Int) i) < (Nat.cast (R := Int) (a.map chD).length)), decide (0 ≤ (Nat.cast (R := Int) i) ∧ (Nat.cast (R := Int) i) < (Nat.cast (R := Int) (b.map chD).length)), isR (DV.lst 3 (List.map vD x.4) false), isR (DV.lst 3 (List.map vD y.4) false)] [(RV.d (DV.bool (decide ((Nat.cast (R := Int) i) < (Nat.cast (R := Int) (a.map chD).length)))), RV.d (DV.bool true)), (RV.iptr ((a.map chD).getD (Nat.cast (R := Int) i).toNat DV.nilp) 0, RV.iptr (DV.agg [DV.str x.1, DV.lst 3 (List.map vD x.2) false, DV.lst 3 (List.map vD x.3) false, DV.lst 3 (List.map vD x.4) false]) 0), (RV.iptr ((b.map chD).getD (Nat.cast (R := Int) i).toNat DV.nilp) 0, RV.iptr (DV.agg [DV.str y.1, DV.lst 3 (List.map vD y.2) false, DV.lst 3 (List.map vD y.3) false, DV.lst 3 (List.map vD y.4) false]) 0), (RV.d (DV.bool !x.1 == y.1), RV.d (DV.bool false)), (RV.d (DV.bool false), RV.d (DV.bool false)), (RV.iptr ((a.map chD).getD (Nat.cast (R := Int) i).toNat DV.nilp) 0, RV.iptr (DV.agg [DV.str x.1, DV.lst 3 (List.map vD x.2) false, DV.lst 3 (List.map vD x.3) false, DV.lst 3 (List.map vD x.4) false]) 0), (RV.iptr ((b.map chD).getD (Nat.cast (R := Int) i).toNat DV.nilp) 0, RV.iptr (DV.agg [DV.str y.1, DV.lst 3 (List.map vD y.2) false, DV.lst 3 (List.map vD y.3) false, DV.lst 3 (List.map vD y.4) false]) 0), (RV.d (DV.bool (decide (unR ((chD x).cells.getD 1 DV.nilp) = unR ((chD y).cells.getD 1 DV.nilp)))), RV.d (DV.bool true)), (RV.d (DV.bool false), RV.d (DV.bool false)), (RV.iptr ((a.map chD).getD (Nat.cast (R := Int) i).toNat DV.nilp) 0, RV.iptr (DV.agg [DV.str x.1, DV.lst 3 (List.map vD x.2) false, DV.lst 3 (List.map vD x.3) false, DV.lst 3 (List.map vD x.4) false]) 0), (RV.iptr ((b.map chD).getD (Nat.cast (R := Int) i).toNat DV.nilp) 0, RV.iptr (DV.agg [DV.str y.1, DV.lst 3 (List.map vD y.2) false, DV.lst 3 (List.map vD y.3) false, DV.lst 3 (List.map vD y.4) false]) 0), (RV.d (DV.bool (decide (unR ((chD x).cells.getD 2 DV.nilp) = unR ((chD y).cells.getD 2 DV.nilp)))), RV.d (DV.bool true)), (RV.d (DV.bool false), RV.d (DV.bool false)), (RV.iptr ((a.map chD).getD (Nat.cast (R := Int) i).toNat DV.nilp) 0, RV.iptr (DV.agg [DV.str x.1, DV.lst 3 (List.map vD x.2) false, DV.lst 3 (List.map vD x.3) false, DV.lst 3 (List.map vD x.4) false]) 0), (RV.iptr ((b.map chD).getD (Nat.cast (R := Int) i).toNat DV.nilp) 0, RV.iptr (DV.agg [DV.str y.1, DV.lst 3 (List.map vD y.2) false, DV.lst 3 (List.map vD y.3) false, DV.lst 3 (List.map vD y.4) false]) 0), (RV.d (DV.bool (decide (unR ((chD x).cells.getD 3 DV.nilp) = unR ((chD y).cells.getD 3 DV.nilp)))), RV.d (DV.bool (decide (x.n = y.n)))), (RV.d (DV.bool !decide (x.n = y.n)), RV.d (DV.bool true))] rfl (by kernel_rfl : runEnd (cfT t2) true _ 1000 0 _ _ (saS (a.map chD) (b.map chD) i) = some (RV.d (DV.bool false), [], _, _)) (by refine ⟨?_, ?_, ?_, ?_, ?_, ?_, ?_, ?_, ?_, ?_, ?_, ?_, ?_, ?_, trivial⟩ <;> (have hlt := lt_map h14; first | exact bd_map hlt | exact bd_map (hb2 hlt) | exact ok_k (hxo hlt) | exact ok_k (hyo hlt) | exact ok_o (hxo hlt) | exact ok_o (hyo hlt) | exact ok_n (hxo hlt) | exact ok_n (hyo hlt))) (by refine ⟨le_bool h14, ?_, ?_, ?_, ?_, ?_, ?_, ?_, ?_, ?_, ?_, ?_, ?_, ?_, ?_, ?_, le_bool h69, trivial⟩ <;> (have hlt := lt_map h14; first | exact ov_chg hlt (hx hlt) | exact ov_chg (hb2 hlt) (hy (hb2 hlt)) | exact ov_Eb (decide_eq_true (by assumption)) | exact ov_Eb (decide_eq_false (by assumption)) | exact ov_E x.n y.n | exact le_bool rfl | exact ov_succ (by omega) | exact le_bool rfl | exact le_bool (by simpa using c1))) ⟨by first | (rw [hend h14]; done) | first | (rw [hno (lt_map h14) (fun e => c1 (by rw [e]))]; done) | (rw [hno (lt_map h14) (fun e => c2 (by rw [e]))]; done) | (rw [hno (lt_map h14) (fun e => c3 (by rw [e]))]; done) | (have c4 : x.n ≠ y.n := (by simpa using h69); rw [hno (lt_map h14) (fun e => c4 (by rw [e]))]), rfl⟩
            · skip
              refine WK.segA ok 1000 0 [(19, RV.iptr (DV.agg [DV.str x.1, DV.lst 3 (List.map vD x.2) false, DV.lst 3 (List.map vD x.3) false, DV.lst 3 (List.map vD x.4) false]) 0), (24, RV.iptr (DV.agg [DV.str y.1, DV.lst 3 (List.map vD y.2) false, DV.lst 3 (List.map vD y.3) false, DV.lst 3 (List.map vD y.4) false]) 0), (27, RV.d (DV.bool false)), (28, RV.d (DV.bool false)), (42, RV.d (DV.bool false)), (56, RV.d (DV.bool false)), (31, RV.iptr (DV.agg [DV.str x.1, DV.lst 3 (List.map vD x.2) false, DV.lst 3 (List.map vD x.3) false, DV.lst 3 (List.map vD x.4) false]) 0), (36, RV.iptr (DV.agg [DV.str y.1, DV.lst 3 (List.map vD y.2) false, DV.lst 3 (List.map vD y.3) false, DV.lst 3 (List.map vD y.4) false]) 0), (39, RV.d (DV.bool true)), (45, RV.iptr (DV.agg [DV.str x.1, DV.lst 3 (List.map vD x.2) false, DV.lst 3 (List.map vD x.3) false, DV.lst 3 (List.map vD x.4) false]) 0), (50, RV.iptr (DV.agg [DV.str y.1, DV.lst 3 (List.map vD y.2) false, DV.lst 3 (List.map vD y.3) false, DV.lst 3 (List.map vD y.4) false]) 0), (53, RV.d (DV.bool true)), (59, RV.iptr (DV.agg [DV.str x.1, DV.lst 3 (List.map vD x.2) false, DV.lst 3 (List.map vD x.3) false, DV.lst 3 (List.map vD x.4) false]) 0), (64, RV.iptr (DV.agg [DV.str y.1, DV.lst 3 (List.map vD y.2) false, DV.lst 3 (List.map vD y.3) false, DV.lst 3 (List.map vD y.4) false]) 0), (67, RV.d (DV.bool (decide (x.n = y.n)))), (16, RV.d (DV.int Go.IntKind.i64 (Nat.cast (R := Int) (i + 1)))), (14, RV.d (DV.bool true)), (69, RV.d (DV.bool false))] [] [0, 1, 5] [decide (0 ≤ (Nat.cast (R := Int) i) ∧ (Nat.cast (R := Int) i) < (Nat.cast (R := Int) (a.map chD).length)), decide (0 ≤ (Nat.cast (R := Int) i) ∧ (Nat.cast (R := Int) i) < (Nat.cast (R := Int) (b.map chD).length)), decide (0 ≤ (Nat.cast (R := Int) i) ∧ (Nat.cast (R := Int) i) < (Nat.cast (R := Int) (a.map chD).length)), decide (0 ≤ (Nat.cast (R := Int) i) ∧ (Nat.cast (R := Int) i) < (Nat.cast (R := Int) (b.map chD).length)), isR (DV.lst 3 (List.map vD x.2) false), isR (DV.lst 3 (List.map vD y.2) false), decide (0 ≤ (Nat.cast (R := Int) i) ∧ (Nat.cast (R := Int) i) < (Nat.cast (R := Int) (a.map chD).length)), decide (0 ≤ (Nat.cast (R := Int) i) ∧ (Nat.cast (R := Int) i) < (Nat.cast (R := Int) (b.map chD).length)), isR (DV.lst 3 (List.map vD x.3) false), isR (DV.lst 3 (List.map vD y.3) false), decide (0 ≤ (Nat.cast (R := Int) i) ∧ (Nat.cast (R := Int) i) < (Nat.cast (R := Int) (a.map chD).length)), decide (0 ≤ (Nat.cast (R := Int) i) ∧ (Nat.cast (R := Int) i) < (Nat.cast (R := Int) (b.map chD).length)), isR (DV.lst 3 (List.map vD x.4) false), isR (DV.lst 3 (List.map vD y.4) false)] [(RV.d (DV.bool (decide ((Nat.cast (R := Int) i) < (Nat.cast (R := Int) (a.map chD).length)))), RV.d (DV.bool true)), (RV.iptr ((a.map chD).getD (Nat.cast (R := Int) i).toNat DV.nilp) 0, RV.iptr (DV.agg [DV.str x.1, DV.lst 3 (List.map vD x.2) false, DV.lst 3 (List.map vD x.3) false, DV.lst 3 (List.map vD x.4) false]) 0), (RV.iptr ((b.map chD).getD (Nat.cast (R := Int) i).toNat DV.nilp) 0, RV.iptr (DV.agg [DV.str y.1, DV.lst 3 (List.map vD y.2) false, DV.lst 3 (List.map vD y.3) false, DV.lst 3 (List.map vD y.4) false]) 0), (RV.d (DV.bool !x.1 == y.1), RV.d (DV.bool false)), (RV.d (DV.bool false), RV.d (DV.bool false)), (RV.iptr ((a.map chD).getD (Nat.cast (R := Int) i).toNat DV.nilp) 0, RV.iptr (DV.agg [DV.str x.1, DV.lst 3 (List.map vD x.2) false, DV.lst 3 (List.map vD x.3) false, DV.lst 3 (List.map vD x.4) false]) 0), (RV.iptr ((b.map chD).getD (Nat.cast (R := Int) i).toNat DV.nilp) 0, RV.iptr (DV.agg [DV.str y.1, DV.lst 3 (List.map vD y.2) false, DV.lst 3 (List.map vD y.3) false, DV.lst 3 (List.map vD y.4) false]) 0), (RV.d (DV.bool (decide (unR ((chD x).cells.getD 1 DV.nilp) = unR ((chD y).cells.getD 1 DV.nilp)))), RV.d (DV.bool true)), (RV.d (DV.bool false), RV.d (DV.bool false)), (RV.iptr ((a.map chD).getD (Nat.cast (R := Int) i).toNat DV.nilp) 0, RV.iptr (DV.agg [DV.str x.1, DV.lst 3 (List.map vD x.2) false, DV.lst 3 (List.map vD x.3) false, DV.lst 3 (List.map vD x.4) false]) 0), (RV.iptr ((b.map chD).getD (Nat.cast (R := Int) i).toNat DV.nilp) 0, RV.iptr (DV.agg [DV.str y.1, DV.lst 3 (List.map vD y.2) false, DV.lst 3 (List.map vD y.3) false, DV.lst 3 (List.map vD y.4) false]) 0), (RV.d (DV.bool (decide (unR ((chD x).cells.getD 2 DV.nilp) = unR ((chD y).cells.getD 2 DV.nilp)))), RV.d (DV.bool true)), (RV.d (DV.bool false), RV.d (DV.bool false)), (RV.iptr ((a.map chD).getD (Nat.cast (R := Int) i).toNat DV.nilp) 0, RV.iptr (DV.agg [DV.str x.1, DV.lst 3 (List.map vD x.2) false, DV.lst 3 (List.map vD x.3) false, DV.lst 3 (List.map vD x.4) false]) 0), (RV.iptr ((b.map chD).getD (Nat.cast (R := Int) i).toNat DV.nilp) 0, RV.iptr (DV.agg [DV.str y.1, DV.lst 3 (List.map vD y.2) false, DV.lst 3 (List.map vD y.3) false, DV.lst 3 (List.map vD y.4) false]) 0), (RV.d (DV.bool (decide (unR ((chD x).cells.getD 3 DV.nilp) = unR ((chD y).cells.getD 3 DV.nilp)))), RV.d (DV.bool (decide (x.n = y.n)))), (RV.d (DV.bool !decide (x.n = y.n)), RV.d (DV.bool false)), (RV.d (DV.int Go.IntKind.i64 (Go.IntKind.i64.wrap ((Nat.cast (R := Int) i) + 1))), RV.d (DV.int Go.IntKind.i64 (Nat.cast (R := Int) (i + 1))))] rfl (by kernel_rfl : runSegA (cfT t2) 1000 0 _ _ _ _ (saS (a.map chD) (b.map chD) i) = some (stackAt saC 0, saS (a.map chD) (b.map chD) (i + 1), _, _)) (by refine ⟨?_, ?_, ?_, ?_, ?_, ?_, ?_, ?_, ?_, ?_, ?_, ?_, ?_, ?_, trivial⟩ <;> (have hlt := lt_map h14; first | exact bd_map hlt | exact bd_map (hb2 hlt) | exact ok_k (hxo hlt) | exact ok_k (hyo hlt) | exact ok_o (hxo hlt) | exact ok_o (hyo hlt) | exact ok_n (hxo hlt) | exact ok_n (hyo hlt))) (by refine ⟨le_bool h14, ?_, ?_, ?_, ?_, ?_, ?_, ?_, ?_, ?_, ?_, ?_, ?_, ?_, ?_, ?_, le_bool h69, ?_, trivial⟩ <;> (have hlt := lt_map h14; first | exact ov_chg hlt (hx hlt) | exact ov_chg (hb2 hlt) (hy (hb2 hlt)) | exact ov_Eb (decide_eq_true (by assumption)) | exact ov_Eb (decide_eq_false (by assumption)) | exact ov_E x.n y.n | exact le_bool rfl | exact ov_succ (by omega) | exact le_bool rfl | exact le_bool (by simpa using c1))) ?_
              have hl := lt_map h14
              have c4 : x.n = y.n := (by simpa using h69)
              refine ih (i + 1) ⟨hl, ?_⟩ (by omega)
              rw [List.take_add_one, List.take_add_one, ht, List.getElem?_eq_getElem hl, List.getElem?_eq_getElem (hb2 hl), hx hl, hy (hb2 hl), chg_ext c1 c2 c3 c4]
          · skip
            exact WK.fin ok 1000 0 [(19, RV.iptr (DV.agg [DV.str x.1, DV.lst 3 (List.map vD x.2) false, DV.lst 3 (List.map vD x.3) false, DV.lst 3 (List.map vD x.4) false]) 0), (24, RV.iptr (DV.agg [DV.str y.1, DV.lst 3 (List.map vD y.2) false, DV.lst 3 (List.map vD y.3) false, DV.lst 3 (List.map vD y.4) false]) 0), (27, RV.d (DV.bool false)), (28, RV.d (DV.bool false)), (42, RV.d (DV.bool false)), (56, RV.d (DV.bool false)), (31, RV.iptr (DV.agg [DV.str x.1, DV.lst 3 (List.map vD x.2) false, DV.lst 3 (List.map vD x.3) false, DV.lst 3 (List.map vD x.4) false]) 0), (36, RV.iptr (DV.agg [DV.str y.1, DV.lst 3 (List.map vD y.2) false, DV.lst 3 (List.map vD y.3) false, DV.lst 3 (List.map vD y.4) false]) 0), (39, RV.d (DV.bool true)), (45, RV.iptr (DV.agg [DV.str x.1, DV.lst 3 (List.map vD x.2) false, DV.lst 3 (List.map vD x.3) false, DV.lst 3 (List.map vD x.4) false]) 0), (50, RV.iptr (DV.agg [DV.str y.1, DV.lst 3 (List.map vD y.2) false, DV.lst 3 (List.map vD y.3) false, DV.lst 3 (List.map vD y.4) false]) 0), (53, RV.d (DV.bool true)), (59, RV.iptr (DV.agg [DV.str x.1, DV.lst 3 (List.map vD x.2) false, DV.lst 3 (List.map vD x.3) false, DV.lst 3 (List.map vD x.4) false]) 0), (64, RV.iptr (DV.agg [DV.str y.1, DV.lst 3 (List.map vD y.2) false, DV.lst 3 (List.map vD y.3) false, DV.lst 3 (List.map vD y.4) false]) 0), (67, RV.d (DV.bool (decide (x.n = y.n)))), (16, RV.d (DV.int Go.IntKind.i64 (Nat.cast (R := Int) (i + 1)))), (14, RV.d (DV.bool false))] [] [(RV.d (DV.bool (decide ((Nat.cast (R := Int) i) < (Nat.cast (R := Int) (a.map chD).length)))), RV.d (DV.bool false))] rfl (by kernel_rfl : runEnd (cfT t2) true _ 1000 0 _ _ (saS (a.map chD) (b.map chD) i) = some (RV.d (DV.bool true), [], _, _)) trivial ⟨le_bool h14, trivial⟩ ⟨by first | (rw [hend h14]; done) | first | (rw [hno (lt_map h14) (fun e => c1 (by rw [e]))]; done) | (rw [hno (lt_map h14) (fun e => c2 (by rw [e]))]; done) | (rw [hno (lt_map h14) (fun e => c3 (by rw [e]))]; done) | (have c4 : x.n ≠ y.n := (by simpa using h69); rw [hno (lt_map h14) (fun e => c4 (by rw [e]))]), rfl⟩
        · skip
          rcases Bool.eq_false_or_eq_true (decide ((Nat.cast (R := Int) i) < (Nat.cast (R := Int) (a.map chD).length)) : Bool) with h14 | h14
          · skip
            exact WK.fin ok 1000 0 [(19, RV.iptr (DV.agg [DV.str x.1, DV.lst 3 (List.map vD x.2) false, DV.lst 3 (List.map vD x.3) false, DV.lst 3 (List.map vD x.4) false]) 0), (24, RV.iptr (DV.agg [DV.str y.1, DV.lst 3 (List.map vD y.2) false, DV.lst 3 (List.map vD y.3) false, DV.lst 3 (List.map vD y.4) false]) 0), (27, RV.d (DV.bool false)), (28, RV.d (DV.bool false)), (42, RV.d (DV.bool false)), (56, RV.d (DV.bool true)), (69, RV.d (DV.bool true)), (31, RV.iptr (DV.agg [DV.str x.1, DV.lst 3 (List.map vD x.2) false, DV.lst 3 (List.map vD x.3) false, DV.lst 3 (List.map vD x.4) false]) 0), (36, RV.iptr (DV.agg [DV.str y.1, DV.lst 3 (List.map vD y.2) false, DV.lst 3 (List.map vD y.3) false, DV.lst 3 (List.map vD y.4) false]) 0), (39, RV.d (DV.bool true)), (45, RV.iptr (DV.agg [DV.str x.1, DV.lst 3 (List.map vD x.2) false, DV.lst 3 (List.map vD x.3) false, DV.lst 3 (List.map vD x.4) false]) 0), (50, RV.iptr (DV.agg [DV.str y.1, DV.lst 3 (List.map vD y.2) false, DV.lst 3 (List.map vD y.3) false, DV.lst 3 (List.map vD y.4) false]) 0), (53, RV.d (DV.bool false)), (14, RV.d (DV.bool true))] [decide (0 ≤ (Nat.cast (R := Int) i) ∧ (Nat.cast (R := Int) i) < (Nat.cast (R := Int) (a.map chD).length)), decide (0 ≤ (Nat.cast (R := Int) i) ∧ (Nat.cast (R := Int) i) < (Nat.cast (R := Int) (b.map chD).length)), decide (0 ≤ (Nat.cast (R := Int) i) ∧ (Nat.cast (R := Int) i) < (Nat.cast (R := Int) (a.map chD).length)), decide (0 ≤ (Nat.cast (R := Int) i) ∧ (Nat.cast (R := Int) i) < (Nat.cast (R := Int) (b.map chD).length)), isR (DV.lst 3 (List.map vD x.2) false), isR (DV.lst 3 (List.map vD y.2) false), decide (0 ≤ (Nat.cast (R := Int) i) ∧ (Nat.cast (R := Int) i) < (Nat.cast (R := Int) (a.map chD).length)), decide (0 ≤ (Nat.cast (R := Int) i) ∧ (Nat.cast (R := Int) i) < (Nat.cast (R := Int) (b.map chD).length)), isR (DV.lst 3 (List.map vD x.3) false), isR (DV.lst 3 (List.map vD y.3) false)] [(RV.d (DV.bool (decide ((Nat.cast (R := Int) i) < (Nat.cast (R := Int) (a.map chD).length)))), RV.d (DV.bool true)), (RV.iptr ((a.map chD).getD (Nat.cast (R := Int) i).toNat DV.nilp) 0, RV.iptr (DV.agg [DV.str x.1, DV.lst 3 (List.map vD x.2) false, DV.lst 3 (List.map vD x.3) false, DV.lst 3 (List.map vD x.4) false]) 0), (RV.iptr ((b.map chD).getD (Nat.cast (R := Int) i).toNat DV.nilp) 0, RV.iptr (DV.agg [DV.str y.1, DV.lst 3 (List.map vD y.2) false, DV.lst 3 (List.map vD y.3) false, DV.lst 3 (List.map vD y.4) false]) 0), (RV.d (DV.bool !x.1 == y.1), RV.d (DV.bool false)), (RV.d (DV.bool false), RV.d (DV.bool false)), (RV.iptr ((a.map chD).getD (Nat.cast (R := Int) i).toNat DV.nilp) 0, RV.iptr (DV.agg [DV.str x.1, DV.lst 3 (List.map vD x.2) false, DV.lst 3 (List.map vD x.3) false, DV.lst 3 (List.map vD x.4) false]) 0), (RV.iptr ((b.map chD).getD (Nat.cast (R := Int) i).toNat DV.nilp) 0, RV.iptr (DV.agg [DV.str y.1, DV.lst 3 (List.map vD y.2) false, DV.lst 3 (List.map vD y.3) false, DV.lst 3 (List.map vD y.4) false]) 0), (RV.d (DV.bool (decide (unR ((chD x).cells.getD 1 DV.nilp) = unR ((chD y).cells.getD 1 DV.nilp)))), RV.d (DV.bool true)), (RV.d (DV.bool false), RV.d (DV.bool false)), (RV.iptr ((a.map chD).getD (Nat.cast (R := Int) i).toNat DV.nilp) 0, RV.iptr (DV.agg [DV.str x.1, DV.lst 3 (List.map vD x.2) false, DV.lst 3 (List.map vD x.3) false, DV.lst 3 (List.map vD x.4) false]) 0), (RV.iptr ((b.map chD).getD (Nat.cast (R := Int) i).toNat DV.nilp) 0, RV.iptr (DV.agg [DV.str y.1, DV.lst 3 (List.map vD y.2) false, DV.lst 3 (List.map vD y.3) false, DV.lst 3 (List.map vD y.4) false]) 0), (RV.d (DV.bool (decide (unR ((chD x).cells.getD 2 DV.nilp) = unR ((chD y).cells.getD 2 DV.nilp)))), RV.d (DV.bool false)), (RV.d (DV.bool true), RV.d (DV.bool true)), (RV.d (DV.bool true), RV.d (DV.bool true))] rfl (by kernel_rfl : runEnd (cfT t2) true _ 1000 0 _ _ (saS (a.map chD) (b.map chD) i) = some (RV.d (DV.bool false), [], _, _)) (by refine ⟨?_, ?_, ?_, ?_, ?_, ?_, ?_, ?_, ?_, ?_, trivial⟩ <;> (have hlt := lt_map h14; first | exact bd_map hlt | exact bd_map (hb2 hlt) | exact ok_k (hxo hlt) | exact ok_k (hyo hlt) | exact ok_o (hxo hlt) | exact ok_o (hyo hlt) | exact ok_n (hxo hlt) | exact ok_n (hyo hlt))) (by refine ⟨le_bool h14, ?_, ?_, ?_, ?_, ?_, ?_, ?_, ?_, ?_, ?_, ?_, ?_, ?_, trivial⟩ <;> (have hlt := lt_map h14; first | exact ov_chg hlt (hx hlt) | exact ov_chg (hb2 hlt) (hy (hb2 hlt)) | exact ov_Eb (decide_eq_true (by assumption)) | exact ov_Eb (decide_eq_false (by assumption)) | exact ov_E x.n y.n | exact le_bool rfl | exact ov_succ (by omega) | exact le_bool rfl | exact le_bool (by simpa using c1))) ⟨by first | (rw [hend h14]; done) | first | (rw [hno (lt_map h14) (fun e => c1 (by rw [e]))]; done) | (rw [hno (lt_map h14) (fun e => c2 (by rw [e]))]; done) | (rw [hno (lt_map h14) (fun e => c3 (by rw [e]))]; done) | (have c4 : x.n ≠ y.n := (by simpa using h69); rw [hno (lt_map h14) (fun e => c4 (by rw [e]))]), rfl⟩
          · skip
            exact WK.fin ok 1000 0 [(19, RV.iptr (DV.agg [DV.str x.1, DV.lst 3 (List.map vD x.2) false, DV.lst 3 (List.map vD x.3) false, DV.lst 3 (List.map vD x.4) false]) 0), (24, RV.iptr (DV.agg [DV.str y.1, DV.lst 3 (List.map vD y.2) false, DV.lst 3 (List.map vD y.3) false, DV.lst 3 (List.map vD y.4) false]) 0), (27, RV.d (DV.bool false)), (28, RV.d (DV.bool false)), (42, RV.d (DV.bool false)), (56, RV.d (DV.bool true)), (69, RV.d (DV.bool true)), (31, RV.iptr (DV.agg [DV.str x.1, DV.lst 3 (List.map vD x.2) false, DV.lst 3 (List.map vD x.3) false, DV.lst 3 (List.map vD x.4) false]) 0), (36, RV.iptr (DV.agg [DV.str y.1, DV.lst 3 (List.map vD y.2) false, DV.lst 3 (List.map vD y.3) false, DV.lst 3 (List.map vD y.4) false]) 0), (39, RV.d (DV.bool true)), (45, RV.iptr (DV.agg [DV.str x.1, DV.lst 3 (List.map vD x.2) false, DV.lst 3 (List.map vD x.3) false, DV.lst 3 (List.map vD x.4) false]) 0), (50, RV.iptr (DV.agg [DV.str y.1, DV.lst 3 (List.map vD y.2) false, DV.lst 3 (List.map vD y.3) false, DV.lst 3 (List.map vD y.4) false]) 0), (53, RV.d (DV.bool false)), (14, RV.d (DV.bool false))] [] [(RV.d (DV.bool (decide ((Nat.cast (R := Int) i) < (Nat.cast (R := Int) (a.map chD).length)))), RV.d (DV.bool false))] rfl (by kernel_rfl : runEnd (cfT t2) true _ 1000 0 _ _ (saS (a.map chD) (b.map chD) i) = some (RV.d (DV.bool true), [], _, _)) trivial ⟨le_bool h14, trivial⟩ ⟨by first | (rw [hend h14]; done) | first | (rw [hno (lt_map h14) (fun e => c1 (by rw [e]))]; done) | (rw [hno (lt_map h14) (fun e => c2 (by rw [e]))]; done) | (rw [hno (lt_map h14) (fun e => c3 (by rw [e]))]; done) | (have c4 : x.n ≠ y.n := (by simpa using h69); rw [hno (lt_map h14) (fun e => c4 (by rw [e]))]), rfl⟩
      · skip
        rcases Bool.eq_false_or_eq_true (decide ((Nat.cast (R := Int) i) < (Nat.cast (R := Int) (a.map chD).length)) : Bool) with h14 | h14
        · skip
          exact WK.fin ok 1000 0 [(19, RV.iptr (DV.agg [DV.str x.1, DV.lst 3 (List.map vD x.2) false, DV.lst 3 (List.map vD x.3) false, DV.lst 3 (List.map vD x.4) false]) 0), (24, RV.iptr (DV.agg [DV.str y.1, DV.lst 3 (List.map vD y.2) false, DV.lst 3 (List.map vD y.3) false, DV.lst 3 (List.map vD y.4) false]) 0), (27, RV.d (DV.bool false)), (28, RV.d (DV.bool false)), (42, RV.d (DV.bool true)), (56, RV.d (DV.bool true)), (69, RV.d (DV.bool true)), (31, RV.iptr (DV.agg [DV.str x.1, DV.lst 3 (List.map vD x.2) false, DV.lst 3 (List.map vD x.3) false, DV.lst 3 (List.map vD x.4) false]) 0), (36, RV.iptr (DV.agg [DV.str y.1, DV.lst 3 (List.map vD y.2) false, DV.lst 3 (List.map vD y.3) false, DV.lst 3 (List.map vD y.4) false]) 0), (39, RV.d (DV.bool false)), (14, RV.d (DV.bool true))] [decide (0 ≤ (Nat.cast (R := Int) i) ∧ (Nat.cast (R := Int) i) < (Nat.cast (R := Int) (a.map chD).length)), decide (0 ≤ (Nat.cast (R := Int) i) ∧ (Nat.cast (R := Int) i) < (Nat.cast (R := Int) (b.map chD).length)), decide (0 ≤ (Nat.cast (R := Int) i) ∧ (Nat.cast (R := Int) i) < (Nat.cast (R := Int) (a.map chD).length)), decide (0 ≤ (Nat.cast (R := Int) i) ∧ (Nat.cast (R := Int) i) < (Nat.cast (R := Int) (b.map chD).length)), isR (DV.lst 3 (List.map vD x.2) false), isR (DV.lst 3 (List.map vD y.2) false)] [(RV.d (DV.bool (decide ((Nat.cast (R := Int) i) < (Nat.cast (R := Int) (a.map chD).length)))), RV.d (DV.bool true)), (RV.iptr ((a.map chD).getD (Nat.cast (R := Int) i).toNat DV.nilp) 0, RV.iptr (DV.agg [DV.str x.1, DV.lst 3 (List.map vD x.2) false, DV.lst 3 (List.map vD x.3) false, DV.lst 3 (List.map vD x.4) false]) 0), (RV.iptr ((b.map chD).getD (Nat.cast (R := Int) i).toNat DV.nilp) 0, RV.iptr (DV.agg [DV.str y.1, DV.lst 3 (List.map vD y.2) false, DV.lst 3 (List.map vD y.3) false, DV.lst 3 (List.map vD y.4) false]) 0), (RV.d (DV.bool !x.1 == y.1), RV.d (DV.bool false)), (RV.d (DV.bool false), RV.d (DV.bool false)), (RV.iptr ((a.map chD).getD (Nat.cast (R := Int) i).toNat DV.nilp) 0, RV.iptr (DV.agg [DV.str x.1, DV.lst 3 (List.map vD x.2) false, DV.lst 3 (List.map vD x.3) false, DV.lst 3 (List.map vD x.4) false]) 0), (RV.iptr ((b.map chD).getD (Nat.cast (R := Int) i).toNat DV.nilp) 0, RV.iptr (DV.agg [DV.str y.1, DV.lst 3 (List.map vD y.2) false, DV.lst 3 (List.map vD y.3) false, DV.lst 3 (List.map vD y.4) false]) 0), (RV.d (DV.bool (decide (unR ((chD x).cells.getD 1 DV.nilp) = unR ((chD y).cells.getD 1 DV.nilp)))), RV.d (DV.bool false)), (RV.d (DV.bool true), RV.d (DV.bool true)), (RV.d (DV.bool true), RV.d (DV.bool true)), (RV.d (DV.bool true), RV.d (DV.bool true))] rfl (by kernel_rfl : runEnd (cfT t2) true _ 1000 0 _ _ (saS (a.map chD) (b.map chD) i) = some (RV.d (DV.bool false), [], _, _)) (by refine ⟨?_, ?_, ?_, ?_, ?_, ?_, trivial⟩ <;> (have hlt := lt_map h14; first | exact bd_map hlt | exact bd_map (hb2 hlt) | exact ok_k (hxo hlt) | exact ok_k (hyo hlt) | exact ok_o (hxo hlt) | exact ok_o (hyo hlt) | exact ok_n (hxo hlt) | exact ok_n (hyo hlt))) (by refine ⟨le_bool h14, ?_, ?_, ?_, ?_, ?_, ?_, ?_, ?_, ?_, ?_, trivial⟩ <;> (have hlt := lt_map h14; first | exact ov_chg hlt (hx hlt) | exact ov_chg (hb2 hlt) (hy (hb2 hlt)) | exact ov_Eb (decide_eq_true (by assumption)) | exact ov_Eb (decide_eq_false (by assumption)) | exact ov_E x.n y.n | exact le_bool rfl | exact ov_succ (by omega) | exact le_bool rfl | exact le_bool (by simpa using c1))) ⟨by first | (rw [hend h14]; done) | first | (rw [hno (lt_map h14) (fun e => c1 (by rw [e]))]; done) | (rw [hno (lt_map h14) (fun e => c2 (by rw [e]))]; done) | (rw [hno (lt_map h14) (fun e => c3 (by rw [e]))]; done) | (have c4 : x.n ≠ y.n := (by simpa using h69); rw [hno (lt_map h14) (fun e => c4 (by rw [e]))]), rfl⟩
        · skip
          exact WK.fin ok 1000 0 [(19, RV.iptr (DV.agg [DV.str x.1, DV.lst 3 (List.map vD x.2) false, DV.lst 3 (List.map vD x.3) false, DV.lst 3 (List.map vD x.4) false]) 0), (24, RV.iptr (DV.agg [DV.str y.1, DV.lst 3 (List.map vD y.2) false, DV.lst 3 (List.map vD y.3) false, DV.lst 3 (List.map vD y.4) false]) 0), (27, RV.d (DV.bool false)), (28, RV.d (DV.bool false)), (42, RV.d (DV.bool true)), (56, RV.d (DV.bool true)), (69, RV.d (DV.bool true)), (31, RV.iptr (DV.agg [DV.str x.1, DV.lst 3 (List.map vD x.2) false, DV.lst 3 (List.map vD x.3) false, DV.lst 3 (List.map vD x.4) false]) 0), (36, RV.iptr (DV.agg [DV.str y.1, DV.lst 3 (List.map vD y.2) false, DV.lst 3 (List.map vD y.3) false, DV.lst 3 (List.map vD y.4) false]) 0), (39, RV.d (DV.bool false)), (14, RV.d (DV.bool false))] [] [(RV.d (DV.bool (decide ((Nat.cast (R := Int) i) < (Nat.cast (R := Int) (a.map chD).length)))), RV.d (DV.bool false))] rfl (by kernel_rfl : runEnd (cfT t2) true _ 1000 0 _ _ (saS (a.map chD) (b.map chD) i) = some (RV.d (DV.bool true), [], _, _)) trivial ⟨le_bool h14, trivial⟩ ⟨by first | (rw [hend h14]; done) | first | (rw [hno (lt_map h14) (fun e => c1 (by rw [e]))]; done) | (rw [hno (lt_map h14) (fun e => c2 (by rw [e]))]; done) | (rw [hno (lt_map h14) (fun e => c3 (by rw [e]))]; done) | (have c4 : x.n ≠ y.n := (by simpa using h69); rw [hno (lt_map h14) (fun e => c4 (by rw [e]))]), rfl⟩
    · skip
      rcases Bool.eq_false_or_eq_true (decide ((Nat.cast (R := Int) i) < (Nat.cast (R := Int) (a.map chD).length)) : Bool) with h14 | h14
      · skip
        exact WK.fin ok 1000 0 [(19, RV.iptr (DV.agg [DV.str x.1, DV.lst 3 (List.map vD x.2) false, DV.lst 3 (List.map vD x.3) false, DV.lst 3 (List.map vD x.4) false]) 0), (24, RV.iptr (DV.agg [DV.str y.1, DV.lst 3 (List.map vD y.2) false, DV.lst 3 (List.map vD y.3) false, DV.lst 3 (List.map vD y.4) false]) 0), (27, RV.d (DV.bool true)), (28, RV.d (DV.bool true)), (42, RV.d (DV.bool true)), (56, RV.d (DV.bool true)), (69, RV.d (DV.bool true)), (14, RV.d (DV.bool true))] [decide (0 ≤ (Nat.cast (R := Int) i) ∧ (Nat.cast (R := Int) i) < (Nat.cast (R := Int) (a.map chD).length)), decide (0 ≤ (Nat.cast (R := Int) i) ∧ (Nat.cast (R := Int) i) < (Nat.cast (R := Int) (b.map chD).length))] [(RV.d (DV.bool (decide ((Nat.cast (R := Int) i) < (Nat.cast (R := Int) (a.map chD).length)))), RV.d (DV.bool true)), (RV.iptr ((a.map chD).getD (Nat.cast (R := Int) i).toNat DV.nilp) 0, RV.iptr (DV.agg [DV.str x.1, DV.lst 3 (List.map vD x.2) false, DV.lst 3 (List.map vD x.3) false, DV.lst 3 (List.map vD x.4) false]) 0), (RV.iptr ((b.map chD).getD (Nat.cast (R := Int) i).toNat DV.nilp) 0, RV.iptr (DV.agg [DV.str y.1, DV.lst 3 (List.map vD y.2) false, DV.lst 3 (List.map vD y.3) false, DV.lst 3 (List.map vD y.4) false]) 0), (RV.d (DV.bool !x.1 == y.1), RV.d (DV.bool true)), (RV.d (DV.bool true), RV.d (DV.bool true)), (RV.d (DV.bool true), RV.d (DV.bool true)), (RV.d (DV.bool true), RV.d (DV.bool true)), (RV.d (DV.bool true), RV.d (DV.bool true))] rfl (by kernel_rfl : runEnd (cfT t2) true _ 1000 0 _ _ (saS (a.map chD) (b.map chD) i) = some (RV.d (DV.bool false), [], _, _)) (by refine ⟨?_, ?_, trivial⟩ <;> (have hlt := lt_map h14; first | exact bd_map hlt | exact bd_map (hb2 hlt) | exact ok_k (hxo hlt) | exact ok_k (hyo hlt) | exact ok_o (hxo hlt) | exact ok_o (hyo hlt) | exact ok_n (hxo hlt) | exact ok_n (hyo hlt))) (by refine ⟨le_bool h14, ?_, ?_, ?_, ?_, ?_, ?_, ?_, trivial⟩ <;> (have hlt := lt_map h14; first | exact ov_chg hlt (hx hlt) | exact ov_chg (hb2 hlt) (hy (hb2 hlt)) | exact ov_Eb (decide_eq_true (by assumption)) | exact ov_Eb (decide_eq_false (by assumption)) | exact ov_E x.n y.n | exact le_bool rfl | exact ov_succ (by omega) | exact le_bool rfl | exact le_bool (by simpa using c1))) ⟨by first | (rw [hend h14]; done) | first | (rw [hno (lt_map h14) (fun e => c1 (by rw [e]))]; done) | (rw [hno (lt_map h14) (fun e => c2 (by rw [e]))]; done) | (rw [hno (lt_map h14) (fun e => c3 (by rw [e]))]; done) | (have c4 : x.n ≠ y.n := (by simpa using h69); rw [hno (lt_map h14) (fun e => c4 (by rw [e]))]), rfl⟩
      · skip
        exact WK.fin ok 1000 0 [(19, RV.iptr (DV.agg [DV.str x.1, DV.lst 3 (List.map vD x.2) false, DV.lst 3 (List.map vD x.3) false, DV.lst 3 (List.map vD x.4) false]) 0), (24, RV.iptr (DV.agg [DV.str y.1, DV.lst 3 (List.map vD y.2) false, DV.lst 3 (List.map vD y.3) false, DV.lst 3 (List.map vD y.4) false]) 0), (27, RV.d (DV.bool true)), (28, RV.d (DV.bool true)), (42, RV.d (DV.bool true)), (56, RV.d (DV.bool true)), (69, RV.d (DV.bool true)), (14, RV.d (DV.bool false))] [] [(RV.d (DV.bool (decide ((Nat.cast (R := Int) i) < (Nat.cast (R := Int) (a.map chD).length)))), RV.d (DV.bool false))] rfl (by kernel_rfl : runEnd (cfT t2) true _ 1000 0 _ _ (saS (a.map chD) (b.map chD) i) = some (RV.d (DV.bool true), [], _, _)) trivial ⟨le_bool h14, trivial⟩ ⟨by first | (rw [hend h14]; done) | first | (rw [hno (lt_map h14) (fun e => c1 (by rw [e]))]; done) | (rw [hno (lt_map h14) (fun e => c2 (by rw [e]))]; done) | (rw [hno (lt_map h14) (fun e => c3 (by rw [e]))]; done) | (have c4 : x.n ≠ y.n := (by simpa using h69); rw [hno (lt_map h14) (fun e => c4 (by rw [e]))]), rfl⟩
  rcases Bool.eq_false_or_eq_true ((Nat.cast (R := Int) (a.map chD).length) != (Nat.cast (R := Int) (b.map chD).length) : Bool) with h10 | h10
  · skip
    exact WK.fin ok 1000 0 [(10, RV.d (DV.bool true))] [] [(RV.d (DV.bool ((Nat.cast (R := Int) (a.map chD).length) != (Nat.cast (R := Int) (b.map chD).length))), RV.d (DV.bool true))] rfl (by kernel_rfl : runEnd (cfT t2) true _ 1000 0 _ _ (ini 70 [.d (chL a), .d (chL b)] []) = some (RV.d (DV.bool false), [], _, _)) trivial ⟨le_bool h10, trivial⟩ ⟨by congr 2; refine (decide_eq_false ?_).symm; rintro rfl; simp at h10, rfl⟩
  · skip
    refine WK.segA ok 1000 0 [(10, RV.d (DV.bool false))] [] [0, 1, 5] [] [(RV.d (DV.bool ((Nat.cast (R := Int) (a.map chD).length) != (Nat.cast (R := Int) (b.map chD).length))), RV.d (DV.bool false))] rfl (by kernel_rfl : runSegA (cfT t2) 1000 0 _ _ _ _ (ini 70 [.d (chL a), .d (chL b)] []) = some (stackAt saC 0, saS (a.map chD) (b.map chD) 0, _, _)) trivial ⟨le_bool h10, trivial⟩ ?_
    have e : (a.length : Int) = b.length := (by simpa using h10)
    exact hloop (by omega)
theorem sa_ent : EntOk Try.prog 16 (e2 smG) := by
  refine e2_ok fun x x2 y c hg hc => ?_
  simp only [smG, Option.some.injEq, Prod.mk.injEq] at hg
  obtain ⟨rfl, rfl⟩ := hg
  obtain ⟨a, rfl, wa⟩ := isL_spec (hc (isL x) (by simp))
  obtain ⟨l, rfl, hl⟩ := isL_spec (hc (isL x2) (by simp))
  rw [unL_chL, unL_chL]
  exact sa_c a l wa hl
end Go.Proofs.Ytljfolepmkcjlaa

/-
  The changes' laws ask first that a small thing goes right: a closed run.
-/
namespace Go.Proofs.Ytljfolepmkcjlaa
open Go.RowKit Am
set_option maxRecDepth 100000

theorem works22_c : C Try.prog 20 [] [] (fun r o => r = .d (.bool true) ∧ o = []) :=
  of_isTrue (lay_ok tb tb_ok brf 6000 1200 12) (by kernel_rfl : isTrue (layer Try.prog (konOf tb) brf cok 6000 1200 12 20 [] []) = true)
end Go.Proofs.Ytljfolepmkcjlaa

/-
  The reference's Concat; the law ChangeConcats, run.
-/
namespace Go.Proofs.Ytljfolepmkcjlaa
open Go.RowKit Plain Am IntWalk
set_option maxRecDepth 100000
set_option linter.unusedVariables false
set_option linter.unusedSimpArgs false

def cnE : Ent := fun a o => match a, o with
  | [.d x, .d y], [] => some (.tup [.d (chL (concatC (unL x) (unL y)).1), .d (.int .i64 (concatC (unL x) (unL y)).2)], [], [isL x, isL y])
  | _, _ => none
noncomputable def tr2 : List (Nat × Ent) := [(49, e1 maG), (50, mergE)]
noncomputable abbrev lcC : Code := bodyOf Try.f6
noncomputable def tl5 : List (Nat × Ent) := [(20, e0 (some (.bool true, []))), (23, e1 grG2), (19, cnE), (24, cnE), (16, e2 smG)]
theorem rmerg_ent : EntOk Try.prog 50 mergE := by
  intro a o r o' c hg hc
  unfold mergE at hg
  split at hg
  · rename_i x
    simp only [Option.some.injEq, Prod.mk.injEq] at hg
    obtain ⟨rfl, rfl, rfl⟩ := hg
    obtain ⟨L, rfl, hok⟩ := isL_spec (hc (isL x) (by simp))
    have h2 := hc ((unL (chL L)).all mayC) (by simp)
    have h3 := of_decide_eq_true (hc (decide ((unL (chL L)).length ≤ 10000)) (by simp))
    rw [unL_chL] at h2 h3 ⊢
    exact rmerge_c L hok (by simpa [List.all_eq_true] using h2) h3
  · cases hg
theorem tr2_ok : EntsOk Try.prog tr2 := .cons ma_ent (.cons rmerg_ent .nil)
theorem rConcat_c (a b : List Chg) (ha : okL a) (hb : okL b) : C Try.prog 24 [.d (chL a), .d (chL b)] [] (fun r o => r = .tup [.d (chL (concatC a b).1), .d (.int .i64 (concatC a b).2)] ∧ o = []) := by
  have ok := cfT_ok tr2_ok
  refine C_of_run (fn := Try.f24) (body := rcoC) true (by kernel_rfl) (by kernel_rfl) (by kernel_rfl) ?_
  have ka := isL_chL ha
  have kb := isL_chL hb
  obtain ⟨l, hl⟩ : ∃ l, a.map chD = l := ⟨_, rfl⟩
  obtain ⟨l2, hl2⟩ : ∃ l2, b.map chD = l2 := ⟨_, rfl⟩
  have ka' : isL (.lst 4 l false) = true := by rw [← hl]; exact ka
  have kb' : isL (.lst 4 l2 false) = true := by rw [← hl2]; exact kb
  have ea : unL (.lst 4 l false) = a := by rw [← hl]; exact unL_chL a
  have eb : unL (.lst 4 l2 false) = b := by rw [← hl2]; exact unL_chL b
  show WK Try.prog 0 _ (ini 22 [.d (.lst 4 (a.map chD) false), .d (.lst 4 (b.map chD) false)] []).den _
  rw [hl, hl2]
  by_cases h1 : mayL a = true
  · have q1 : RVle (.d (.bool (!mayL (unL (.lst 4 l false))))) (.d (.bool false)) := le_bool (by rw [ea, h1]; rfl)
    by_cases h2 : mayL b = true
    · have q2 : RVle (.d (.bool (!mayL (unL (.lst 4 l2 false))))) (.d (.bool false)) := le_bool (by rw [eb, h2]; rfl)
      have hc : concatC a b = mergeC (a ++ b) := by unfold concatC; rw [h1, h2]; rfl
      rw [hc]
      obtain ⟨ma, la⟩ := mayL_all h1
      obtain ⟨mb, lb⟩ := mayL_all h2
      have hal : l.length = a.length := by rw [← hl, List.length_map]
      have hbl : l2.length = b.length := by rw [← hl2, List.length_map]
      have eab : unL (.lst 4 ([] ++ l ++ l2) false) = a ++ b := by rw [List.nil_append, ← hl, ← hl2, ← List.map_append]; exact unL_chL _
      have kab : isL (.lst 4 ([] ++ l ++ l2) false) = true := by
        rw [List.nil_append, ← hl, ← hl2, ← List.map_append]
        exact isL_chL ⟨by simp only [List.length_append]; omega, fun c hc => by
          rcases List.mem_append.1 hc with hc | hc
          · exact ha.2 c hc
          · exact hb.2 c hc⟩
      have kma : (unL (.lst 4 ([] ++ l ++ l2) false)).all mayC = true := by
        rw [eab, List.all_eq_true]
        intro c hc
        rcases List.mem_append.1 hc with hc | hc
        · exact ma c hc
        · exact mb c hc
      have kle : decide ((unL (.lst 4 ([] ++ l ++ l2) false)).length ≤ 10000) = true := decide_eq_true (by rw [eab, List.length_append]; omega)
      have hrun : runEnd (cfT tr2) true (Try.f24.results.toList) 1000 0 [(8, .d (.bool false)), (9, .d (.bool false)), (12, .d (.bool false)), (13, .d (.bool false))] [.code rcoC] (ini 22 [.d (.lst 4 l false), .d (.lst 4 l2 false)] []) = some (.tup [.d (chL (mergeC (unL (.lst 4 ([] ++ l ++ l2) false))).1), .d (.int .i64 (mergeC (unL (.lst 4 ([] ++ l ++ l2) false))).2)], [], [isL (.lst 4 l false), isL (.lst 4 l2 false), decide ((([] : List DV).length + l.length) * 88 ≤ 2 ^ 38), decide ((([] ++ l).length + l2.length) * 88 ≤ 2 ^ 38), isL (.lst 4 ([] ++ l ++ l2) false), (unL (.lst 4 ([] ++ l ++ l2) false)).all mayC, decide ((unL (.lst 4 ([] ++ l ++ l2) false)).length ≤ 10000)], [(.d (.bool (!mayL (unL (.lst 4 l false)))), .d (.bool false)), (.d (.bool false), .d (.bool false)), (.d (.bool (!mayL (unL (.lst 4 l2 false)))), .d (.bool false)), (.d (.bool false), .d (.bool false))]) := by kernel_rfl
      exact WK.fin ok 1000 0 _ _ _ rfl hrun ⟨ka', kb', decide_eq_true (by simp only [List.length_nil]; omega), decide_eq_true (by simp only [List.nil_append]; omega), kab, kma, kle, trivial⟩ ⟨q1, le_bool rfl, q2, le_bool rfl, trivial⟩ ⟨by rw [eab], rfl⟩
    · have h2' : mayL b = false := by simpa using h2
      have q2 : RVle (.d (.bool (!mayL (unL (.lst 4 l2 false))))) (.d (.bool true)) := le_bool (by rw [eb, h2']; rfl)
      have hc : concatC a b = ([], 2) := by unfold concatC; rw [h2', Bool.and_false]; rfl
      rw [hc]
      exact WK.fin ok 1000 0 [(8, RV.d (DV.bool false)), (9, RV.d (DV.bool false)), (12, RV.d (DV.bool true)), (13, RV.d (DV.bool true)), (4, RV.d (DV.lst 4 [] false))] [isL (DV.lst 4 l false), isL (DV.lst 4 l2 false)] [(RV.d (DV.lst 0 [] true), RV.d (DV.lst 4 [] false)), (RV.d (DV.bool !Plain.mayL (unL (DV.lst (4) l false))), RV.d (DV.bool false)), (RV.d (DV.bool false), RV.d (DV.bool false)), (RV.d (DV.bool !Plain.mayL (unL (DV.lst (4) l2 false))), RV.d (DV.bool true)), (RV.d (DV.bool true), RV.d (DV.bool true)), (RV.d (DV.lst 0 [] true), RV.d (DV.lst 4 [] false))] rfl (by kernel_rfl : runEnd (cfT tr2) true _ 1000 0 _ _ (ini 22 [.d (.lst 4 l false), .d (.lst 4 l2 false)] []) = some (RV.tup [RV.d (DV.lst 4 [] false), RV.d (DV.int Go.IntKind.i64 (2))], [], _, _)) (by refine ⟨?_, ?_, trivial⟩ <;> (first | rfl | exact ka' | exact kb')) (by refine ⟨?_, ?_, ?_, ?_, ?_, ?_, trivial⟩ <;> (first | exact nil_leM | exact q1 | exact q2 | exact le_bool rfl)) ⟨rfl, rfl⟩
  · have h1' : mayL a = false := by simpa using h1
    have q1 : RVle (.d (.bool (!mayL (unL (.lst 4 l false))))) (.d (.bool true)) := le_bool (by rw [ea, h1']; rfl)
    have q2 := q1
    have hc : concatC a b = ([], 2) := by unfold concatC; rw [h1', Bool.false_and]; rfl
    rw [hc]
    exact WK.fin ok 1000 0 [(8, RV.d (DV.bool true)), (9, RV.d (DV.bool true)), (13, RV.d (DV.bool true)), (4, RV.d (DV.lst 4 [] false))] [isL (DV.lst 4 l false)] [(RV.d (DV.lst 0 [] true), RV.d (DV.lst 4 [] false)), (RV.d (DV.bool !Plain.mayL (unL (DV.lst (4) l false))), RV.d (DV.bool true)), (RV.d (DV.bool true), RV.d (DV.bool true)), (RV.d (DV.bool true), RV.d (DV.bool true)), (RV.d (DV.lst 0 [] true), RV.d (DV.lst 4 [] false))] rfl (by kernel_rfl : runEnd (cfT tr2) true _ 1000 0 _ _ (ini 22 [.d (.lst 4 l false), .d (.lst 4 l2 false)] []) = some (RV.tup [RV.d (DV.lst 4 [] false), RV.d (DV.int Go.IntKind.i64 (2))], [], _, _)) ⟨(by first | rfl | exact ka' | exact kb'), trivial⟩ (by refine ⟨?_, ?_, ?_, ?_, ?_, trivial⟩ <;> (first | exact nil_leM | exact q1 | exact q2 | exact le_bool rfl)) ⟨rfl, rfl⟩
theorem cn_ent {f : Nat} (h : ∀ a b : List Chg, okL a → okL b → C Try.prog f [.d (chL a), .d (chL b)] [] (fun r o => r = .tup [.d (chL (concatC a b).1), .d (.int .i64 (concatC a b).2)] ∧ o = [])) : EntOk Try.prog f cnE := by
  intro a o r o' c hg hc
  unfold cnE at hg
  split at hg
  · rename_i x y
    simp only [Option.some.injEq, Prod.mk.injEq] at hg
    obtain ⟨rfl, rfl, rfl⟩ := hg
    obtain ⟨A, rfl, hA⟩ := isL_spec (hc (isL x) (by simp))
    obtain ⟨B, rfl, hB⟩ := isL_spec (hc (isL y) (by simp))
    rw [unL_chL, unL_chL]
    exact h A B hA hB
  · cases hg
theorem works22_ent : EntOk Try.prog 20 (e0 (some (.bool true, []))) := e0_ok fun y c h _ => by simp at h; obtain ⟨rfl, rfl⟩ := h; exact works22_c
theorem tl5_ok : EntsOk Try.prog tl5 := .cons works22_ent (.cons g2_ent (.cons (cn_ent Concat_c) (.cons (cn_ent rConcat_c) (.cons sa_ent .nil))))
theorem mergeC_ok {L : List Chg} (h : okL L) : okL (mergeC L).1 := by
  rw [mergeC_of]
  split
  · split
    · exact mrgC_ok h
    · exact okL_nil
  · exact okL_nil
theorem concatC_ok {a b : List Chg} (ha : okL a) (hb : okL b) (hl : a.length + b.length ≤ 65536) : okL (concatC a b).1 := by
  unfold concatC
  split
  · exact mergeC_ok ⟨by rw [List.length_append]; omega, fun c hc => by
      rcases List.mem_append.1 hc with hc | hc
      · exact ha.2 c hc
      · exact hb.2 c hc⟩
  · exact okL_nil
theorem ov_G2 {l : List Chg} {b : Bool} (h : great2 l = b) : RVle (.d (.bool (great2 (unL (chL l))))) (.d (.bool b)) := .of_eq (by rw [unL_chL, h])
set_option maxHeartbeats 2000000 in
theorem concats_c (a b : List Chg) (la : a.length ≤ 9223372036854775807) (lb : b.length ≤ 9223372036854775807) (wa : ∀ c ∈ a, c.wf) (wb : ∀ c ∈ b, c.wf) : C Try.prog 6 [.d (chL a), .d (chL b)] [] (fun r o => r = .d (.bool true) ∧ o = []) := by
  have ok := cfT_ok tl5_ok
  refine C_of_run (fn := Try.f6) (body := lcC) true (by kernel_rfl) (by kernel_rfl) (by kernel_rfl) ?_
  have ia := isLw_chL la wa
  have ib := isLw_chL lb wb
  show WK Try.prog 0 _ (ini 45 [.d (.lst 4 (a.map chD) false), .d (.lst 4 (b.map chD) false)] []).den _
  cases g1 : great2 a with
  | true =>
    have q1 := ov_G2 g1
    exact WK.fin ok 1000 0 [(12, RV.d (DV.bool true)), (13, RV.d (DV.bool true)), (16, RV.d (DV.bool true)), (17, RV.d (DV.bool true)), (24, RV.d (DV.bool true))] [isLw (DV.lst 4 (a.map chD) false)] [(RV.d (DV.bool (great2 (unL (DV.lst (4) (a.map chD) false)))), RV.d (DV.bool true)), (RV.d (DV.bool true), RV.d (DV.bool true)), (RV.d (DV.bool true), RV.d (DV.bool true)), (RV.d (DV.bool true), RV.d (DV.bool true)), (RV.d (DV.bool true), RV.d (DV.bool true))] rfl (by kernel_rfl : runEnd (cfT tl5) true _ 1000 0 _ _ (ini 45 [.d (.lst 4 (a.map chD) false), .d (.lst 4 (b.map chD) false)] []) = some (RV.d (DV.bool true), [], _, _)) ⟨(by first | exact ia | exact ib), trivial⟩ (by refine ⟨?_, ?_, ?_, ?_, ?_, trivial⟩ <;> (first | exact q1 | exact le_bool rfl)) ⟨rfl, rfl⟩
  | false =>
    have q1 := ov_G2 g1
    have ha := great2_no g1 wa
    cases g2 : great2 b with
    | true =>
      have q2 := ov_G2 g2
      exact WK.fin ok 1000 0 [(12, RV.d (DV.bool false)), (13, RV.d (DV.bool false)), (15, RV.d (DV.bool true)), (16, RV.d (DV.bool true)), (17, RV.d (DV.bool true)), (24, RV.d (DV.bool true))] [isLw (DV.lst 4 (a.map chD) false), isLw (DV.lst 4 (b.map chD) false)] [(RV.d (DV.bool (great2 (unL (DV.lst (4) (a.map chD) false)))), RV.d (DV.bool false)), (RV.d (DV.bool false), RV.d (DV.bool false)), (RV.d (DV.bool (great2 (unL (DV.lst (4) (b.map chD) false)))), RV.d (DV.bool true)), (RV.d (DV.bool true), RV.d (DV.bool true)), (RV.d (DV.bool true), RV.d (DV.bool true)), (RV.d (DV.bool true), RV.d (DV.bool true))] rfl (by kernel_rfl : runEnd (cfT tl5) true _ 1000 0 _ _ (ini 45 [.d (.lst 4 (a.map chD) false), .d (.lst 4 (b.map chD) false)] []) = some (RV.d (DV.bool true), [], _, _)) (by refine ⟨?_, ?_, trivial⟩ <;> (first | exact ia | exact ib)) (by refine ⟨?_, ?_, ?_, ?_, ?_, ?_, trivial⟩ <;> (first | exact q1 | exact q2 | exact le_bool rfl)) ⟨rfl, rfl⟩
    | false =>
      have q2 := ov_G2 g2
      have hb := great2_no g2 wb
      have a6 := ha.1
      have b6 := hb.1
      have q3 : ∀ v : Bool, decide (100 < a.length + b.length) = v → RVle (.d (.bool (decide ((100 : Int) < IntKind.i64.wrap ((Nat.cast (R := Int) (a.map chD).length) + (Nat.cast (R := Int) (b.map chD).length)))))) (.d (.bool v)) := fun v h => le_bool (by
        rw [List.length_map, List.length_map, i64_in _ (by omega), ← h]
        apply Bool.eq_iff_iff.2; simp only [decide_eq_true_eq]; omega)
      cases h3 : decide (100 < a.length + b.length) with
      | true =>
        have q3 := q3 _ h3
        exact WK.fin ok 1000 0 [(12, RV.d (DV.bool false)), (13, RV.d (DV.bool false)), (15, RV.d (DV.bool false)), (16, RV.d (DV.bool false)), (17, RV.d (DV.bool false)), (23, RV.d (DV.bool true)), (24, RV.d (DV.bool true))] [isLw (DV.lst 4 (a.map chD) false), isLw (DV.lst 4 (b.map chD) false)] [(RV.d (DV.bool (great2 (unL (DV.lst (4) (a.map chD) false)))), RV.d (DV.bool false)), (RV.d (DV.bool false), RV.d (DV.bool false)), (RV.d (DV.bool (great2 (unL (DV.lst (4) (b.map chD) false)))), RV.d (DV.bool false)), (RV.d (DV.bool false), RV.d (DV.bool false)), (RV.d (DV.bool false), RV.d (DV.bool false)), (RV.d (DV.bool (decide (100 < Go.IntKind.i64.wrap ((Nat.cast (R := Int) (a.map chD).length) + (Nat.cast (R := Int) (b.map chD).length))))), RV.d (DV.bool true)), (RV.d (DV.bool true), RV.d (DV.bool true))] rfl (by kernel_rfl : runEnd (cfT tl5) true _ 1000 0 _ _ (ini 45 [.d (.lst 4 (a.map chD) false), .d (.lst 4 (b.map chD) false)] []) = some (RV.d (DV.bool true), [], _, _)) (by refine ⟨?_, ?_, trivial⟩ <;> (first | exact ia | exact ib)) (by refine ⟨?_, ?_, ?_, ?_, ?_, ?_, ?_, trivial⟩ <;> (first | exact q1 | exact q2 | exact q3 | exact le_bool rfl)) ⟨rfl, rfl⟩
      | false =>
        have q3 := q3 _ h3
        have hle := of_decide_eq_false h3
        have ka := isL_chL ha
        have kb := isL_chL hb
        have kc : isL (chL (concatC (unL (chL a)) (unL (chL b))).1) = true := by rw [unL_chL, unL_chL]; exact isL_chL (concatC_ok ha hb (by omega))
        exact WK.fin ok 1000 0 [(12, RV.d (DV.bool false)), (13, RV.d (DV.bool false)), (15, RV.d (DV.bool false)), (16, RV.d (DV.bool false)), (17, RV.d (DV.bool false)), (23, RV.d (DV.bool false)), (24, RV.d (DV.bool false)), (39, RV.d (DV.bool true)), (40, RV.d (DV.bool true)), (43, RV.d (DV.bool true))] [isLw (DV.lst 4 (a.map chD) false), isLw (DV.lst 4 (b.map chD) false), isL (DV.lst 4 (a.map chD) false), isL (DV.lst 4 (b.map chD) false), isL (DV.lst 4 (a.map chD) false), isL (DV.lst 4 (b.map chD) false), isL (DV.lst 4 (List.map chD (Plain.concatC (unL (DV.lst (4) (a.map chD) false)) (unL (DV.lst (4) (b.map chD) false))).1) false), isL (DV.lst 4 (List.map chD (Plain.concatC (unL (DV.lst (4) (a.map chD) false)) (unL (DV.lst (4) (b.map chD) false))).1) false)] [(RV.d (DV.bool (great2 (unL (DV.lst (4) (a.map chD) false)))), RV.d (DV.bool false)), (RV.d (DV.bool false), RV.d (DV.bool false)), (RV.d (DV.bool (great2 (unL (DV.lst (4) (b.map chD) false)))), RV.d (DV.bool false)), (RV.d (DV.bool false), RV.d (DV.bool false)), (RV.d (DV.bool false), RV.d (DV.bool false)), (RV.d (DV.bool (decide (100 < Go.IntKind.i64.wrap ((Nat.cast (R := Int) (a.map chD).length) + (Nat.cast (R := Int) (b.map chD).length))))), RV.d (DV.bool false)), (RV.d (DV.bool false), RV.d (DV.bool false)), (RV.d (DV.bool ((Plain.concatC (unL (DV.lst (4) (a.map chD) false)) (unL (DV.lst (4) (b.map chD) false))).2 == (Plain.concatC (unL (DV.lst (4) (a.map chD) false)) (unL (DV.lst (4) (b.map chD) false))).2)), RV.d (DV.bool true)), (RV.d (DV.bool true), RV.d (DV.bool true)), (RV.d (DV.bool (decide (unL (chL (Plain.concatC (unL (DV.lst (4) (a.map chD) false)) (unL (DV.lst (4) (b.map chD) false))).fst) = unL (chL (Plain.concatC (unL (DV.lst (4) (a.map chD) false)) (unL (DV.lst (4) (b.map chD) false))).fst)))), RV.d (DV.bool true))] rfl (by kernel_rfl : runEnd (cfT tl5) true _ 1000 0 _ _ (ini 45 [.d (.lst 4 (a.map chD) false), .d (.lst 4 (b.map chD) false)] []) = some (RV.d (DV.bool true), [], _, _)) (by refine ⟨?_, ?_, ?_, ?_, ?_, ?_, ?_, ?_, trivial⟩ <;> (first | exact ia | exact ib | exact ka | exact kb | exact kc)) (by refine ⟨?_, ?_, ?_, ?_, ?_, ?_, ?_, ?_, ?_, ?_, trivial⟩ <;> (first | exact q1 | exact q2 | exact q3 | exact le_bool rfl | exact le_bool (beq_self_eq_true _) | exact le_bool (decide_eq_true rfl))) ⟨rfl, rfl⟩
end Go.Proofs.Ytljfolepmkcjlaa

/-
  A law's arguments as changes.
-/
namespace Go.Proofs.Ytljfolepmkcjlaa
open Go.RowKit Plain Am
set_option maxRecDepth 100000

theorem und_row : Try.prog.underlying 44 = some (.slice 49) := by kernel_rfl
theorem agg_val : isAggT Try.prog 49 = true := by kernel_rfl
theorem cells_val : Try.prog.cellsOf 49 = 3 := by kernel_rfl

theorem val_ty {xs : List DV} (h : Ty Try.prog 49 xs) : ∃ v, .agg xs = vD v ∧ v.wf := by
  have hu : ∃ fs, Try.prog.underlying 49 = some (.struct fs) ∧ (fs[0]?.map fun f => (f.type, f.offset)) = some (5, 0) ∧ (fs[1]?.map fun f => (f.type, f.offset)) = some (2, 1) ∧ (fs[2]?.map fun f => (f.type, f.offset)) = some (9, 2) :=
    ⟨_, Try.underlying49, rfl, rfl, rfl⟩
  obtain ⟨fs, hu, e0, e1, e2⟩ := hu
  obtain ⟨hl, hf⟩ := h.struct_inv hu
  rw [cells_val] at hl
  match xs, hl with
  | [a, b, c], _ =>
    simp only [Option.map_eq_some_iff, Prod.mk.injEq] at e0 e1 e2
    obtain ⟨f0, h0, t0, o0⟩ := e0
    obtain ⟨f1, h1, t1, o1⟩ := e1
    obtain ⟨f2, h2, t2, o2⟩ := e2
    have k0 := hf 0 f0 h0
    have k1 := hf 1 f1 h1
    have k2 := hf 2 f2 h2
    rw [t0, o0, (by kernel_rfl : Try.prog.cellsOf 5 = 1)] at k0
    rw [t1, o1, (by kernel_rfl : Try.prog.cellsOf 2 = 1)] at k1
    rw [t2, o2, (by kernel_rfl : Try.prog.cellsOf 9 = 1)] at k2
    obtain ⟨k, q0, w0⟩ := k0.int_inv (k := .u8) (by kernel_rfl)
    obtain ⟨n, q1, w1⟩ := k1.int_inv (k := .i64) (by kernel_rfl)
    obtain ⟨s, q2, _⟩ := k2.str_inv (by kernel_rfl)
    simp at q0 q1 q2
    subst q0 q1 q2
    refine ⟨⟨k, n, s⟩, rfl, ?_⟩
    simp [Lit.wf, IntKind.min, IntKind.max, IntKind.signed, IntKind.bits] at w0 w1
    exact ⟨w0.1, w0.2, w1.1, w1.2⟩

theorem row_ty {xs : List DV} (h : Ty Try.prog 44 xs) : ∃ l : List Val, xs = [.lst 3 (l.map vD) false] ∧ (∀ v ∈ l, v.wf) := by
  obtain ⟨els, rfl, _, he⟩ := h.lst_inv und_row
  rw [cells_val]
  have : ∀ els : List DV, (∀ x ∈ els, x = elOf (isAggT Try.prog 49) x.cells ∧ x.cells.length = Try.prog.cellsOf 49 ∧ Ty Try.prog 49 x.cells) → ∃ l : List Val, els = l.map vD ∧ ∀ v ∈ l, v.wf := by
    intro els
    induction els with
    | nil => intro _; exact ⟨[], rfl, by simp⟩
    | cons x r ih =>
      intro h
      obtain ⟨l, h1, h2⟩ := ih (fun y hy => h y (by simp [hy]))
      obtain ⟨g1, _, g3⟩ := h x (by simp)
      obtain ⟨v, v1, v2⟩ := val_ty g3
      rw [agg_val] at g1
      refine ⟨v :: l, by rw [g1, h1]; simp only [elOf, cond_true, v1, List.map_cons], fun u hu => ?_⟩
      rcases List.mem_cons.1 hu with rfl | hu
      · exact v2
      · exact h2 u hu
  obtain ⟨l, rfl, h2⟩ := this els he
  exact ⟨l, rfl, h2⟩

theorem und_chg : Try.prog.underlying 22 = some (.slice 46) := by kernel_rfl
theorem agg_chg : isAggT Try.prog 46 = true := by kernel_rfl
theorem cells_chg : Try.prog.cellsOf 46 = 4 := by kernel_rfl
theorem chg1_ty {xs : List DV} (h : Ty Try.prog 46 xs) : ∃ v : Chg, .agg xs = chD v ∧ v.wf := by
  have hu : ∃ fs, Try.prog.underlying 46 = some (.struct fs) ∧ (fs[0]?.map fun f => (f.type, f.offset)) = some (9, 0) ∧ (fs[1]?.map fun f => (f.type, f.offset)) = some (44, 1) ∧ (fs[2]?.map fun f => (f.type, f.offset)) = some (44, 2) ∧ (fs[3]?.map fun f => (f.type, f.offset)) = some (44, 3) :=
    ⟨_, Try.underlying46, rfl, rfl, rfl, rfl⟩
  obtain ⟨fs, hu, e0, e1, e2, e3⟩ := hu
  obtain ⟨hl, hf⟩ := h.struct_inv hu
  rw [cells_chg] at hl
  match xs, hl with
  | [a, b, c, d], _ =>
    simp only [Option.map_eq_some_iff, Prod.mk.injEq] at e0 e1 e2 e3
    obtain ⟨f0, h0, t0, o0⟩ := e0
    obtain ⟨f1, h1, t1, o1⟩ := e1
    obtain ⟨f2, h2, t2, o2⟩ := e2
    obtain ⟨f3, h3, t3, o3⟩ := e3
    have k0 := hf 0 f0 h0
    have k1 := hf 1 f1 h1
    have k2 := hf 2 f2 h2
    have k3 := hf 3 f3 h3
    rw [t0, o0, (by kernel_rfl : Try.prog.cellsOf 9 = 1)] at k0
    rw [t1, o1, (by kernel_rfl : Try.prog.cellsOf 44 = 1)] at k1
    rw [t2, o2, (by kernel_rfl : Try.prog.cellsOf 44 = 1)] at k2
    rw [t3, o3, (by kernel_rfl : Try.prog.cellsOf 44 = 1)] at k3
    obtain ⟨s, q0, _⟩ := k0.str_inv (by kernel_rfl)
    obtain ⟨l1, q1, w1⟩ := row_ty k1
    obtain ⟨l2, q2, w2⟩ := row_ty k2
    obtain ⟨l3, q3, w3⟩ := row_ty k3
    simp at q0 q1 q2 q3
    subst q0 q1 q2 q3
    exact ⟨⟨s, l1, l2, l3⟩, rfl, w1, w2, w3⟩
theorem chg_ty {xs : List DV} (h : Ty Try.prog 22 xs) : ∃ l : List Chg, xs = [chL l] ∧ l.length ≤ 9223372036854775807 ∧ ∀ x ∈ l, x.wf := by
  obtain ⟨els, rfl, hn, he⟩ := h.lst_inv und_chg
  rw [cells_chg]
  have : ∀ els : List DV, (∀ x ∈ els, x = elOf (isAggT Try.prog 46) x.cells ∧ x.cells.length = Try.prog.cellsOf 46 ∧ Ty Try.prog 46 x.cells) → ∃ l : List Chg, els = l.map chD ∧ ∀ x ∈ l, x.wf := by
    intro els
    induction els with
    | nil => intro _; exact ⟨[], rfl, by simp⟩
    | cons x r ih =>
      intro h
      obtain ⟨l, h1, h2⟩ := ih (fun y hy => h y (by simp [hy]))
      obtain ⟨g1, _, g3⟩ := h x (by simp)
      obtain ⟨v, v1, v2⟩ := chg1_ty g3
      rw [agg_chg] at g1
      exact ⟨v :: l, by rw [g1, h1]; simp only [elOf, cond_true, v1, List.map_cons], fun z hz => by
        rcases List.mem_cons.1 hz with rfl | hz
        · exact v2
        · exact h2 z hz⟩
  obtain ⟨l, rfl, hl⟩ := this els he
  refine ⟨l, rfl, ?_, hl⟩
  rw [List.length_map] at hn
  exact Nat.le_trans hn (by decide)
end Go.Proofs.Ytljfolepmkcjlaa
