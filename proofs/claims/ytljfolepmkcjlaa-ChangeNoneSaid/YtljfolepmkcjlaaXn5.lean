/-
  Texts that the claim leans on, one behind the other, part 5.
-/
import Derived.Test.YtljfolepmkcjlaaXn4
import Derived.Test.YtljfolepmkcjlaaRows

/-
  Whether two changesets are the same.
-/
namespace Go.Proofs.Ytljfolepmkcjlaa
open Go.RowKit Plain Am IntWalk
set_option maxRecDepth 100000
set_option linter.unusedVariables false
set_option linter.unusedSimpArgs false

theorem chg_ext {x y : Chg} (h1 : x.t = y.t) (h2 : x.k = y.k) (h3 : x.o = y.o) (h4 : x.n = y.n) : x = y := by
  cases x; cases y; simp only at h1 h2 h3 h4; subst h1 h2 h3 h4; rfl
theorem sa_c (a b : List Chg) (ha : okL a) (hb : okL b) : C Try.prog 16 [.d (chL a), .d (chL b)] [] (fun r o => r = .d (.bool (decide (a = b))) ∧ o = []) := by
  have ok := cfT_ok t2_ok
  refine C_of_run (fn := Try.f16) (body := saC) true (by kernel_rfl) (by kernel_rfl) (by kernel_rfl) ?_
  have hal := ha.1
  have hloop : a.length = b.length → WK Try.prog 0 (stackAt saC 0) (saS (a.map chD) (b.map chD) 0).den (Ends (Try.f16.results.toList) (.d (.bool (decide (a = b))))) := by
    intro hlen
    refine WK.rec' (fun i => saS (a.map chD) (b.map chD) i) (fun i => i ≤ a.length ∧ a.take i = b.take i) (fun i => a.length - i) ?_ 0 ⟨Nat.zero_le _, rfl⟩
    rintro i ⟨hi, ht⟩ ih
    obtain ⟨x, hx⟩ := at_chg a i
    obtain ⟨y, hy⟩ := at_chg b i
    have hb2 : i < a.length → i < b.length := fun h => by omega
    have hxo : i < a.length → Chg.ok x := fun h => by rw [← hx h]; exact ha.2 _ (List.getElem_mem h)
    have hyo : i < a.length → Chg.ok y := fun h => by rw [← hy (hb2 h)]; exact hb.2 _ (List.getElem_mem (hb2 h))
    have hend : decide ((Nat.cast (R := Int) i) < (Nat.cast (R := Int) (a.map chD).length)) = false → decide (a = b) = true := fun h => by
      have e := ge_map h
      rw [List.take_of_length_le e, List.take_of_length_le (by omega)] at ht
      exact decide_eq_true ht
    have hno : i < a.length → x ≠ y → decide (a = b) = false := fun h hne => by
      refine decide_eq_false ?_
      rintro rfl
      exact hne ((hx h).symm.trans (hy h))
    by_cases c1 : x.t = y.t
    · by_cases c2 : x.k = y.k
      · by_cases c3 : x.o = y.o
        · skip
          rcases Bool.eq_false_or_eq_true (decide ((Nat.cast (R := Int) i) < (Nat.cast (R := Int) (a.map chD).length)) : Bool) with h14 | h14
          · skip
            rcases Bool.eq_false_or_eq_true (!decide (x.n = y.n) : Bool) with h69 | h69
            · skip
              exact WK.fin ok 1000 0 [(19, RV.iptr (DV.agg [DV.str x.1, DV.lst 3 (List.map vD x.2) false, DV.lst 3 (List.map vD x.3) false, DV.lst 3 (List.map vD x.4) false]) 0), (24, RV.iptr (DV.agg [DV.str y.1, DV.lst 3 (List.map vD y.2) false, DV.lst 3 (List.map vD y.3) false, DV.lst 3 (List.map vD y.4) false]) 0), (27, RV.d (DV.bool false)), (28, RV.d (DV.bool false)), (42, RV.d (DV.bool false)), (56, RV.d (DV.bool false)), (31, RV.iptr (DV.agg [DV.str x.1, DV.lst 3 (List.map vD x.2) false, DV.lst 3 (List.map vD x.3) false, DV.lst 3 (List.map vD x.4) false]) 0), (36, RV.iptr (DV.agg [DV.str y.1, DV.lst 3 (List.map vD y.2) false, DV.lst 3 (List.map vD y.3) false, DV.lst 3 (List.map vD y.4) false]) 0), (39, RV.d (DV.bool true)), (45, RV.iptr (DV.agg [DV.str x.1, DV.lst 3 (List.map vD x.2) false, DV.lst 3 (List.map vD x.3) false, DV.lst 3 (List.map vD x.4) false]) 0), (50, RV.iptr (DV.agg [DV.str y.1, DV.lst 3 (List.map vD y.2) false, DV.lst 3 (List.map vD y.3) false, DV.lst 3 (List.map vD y.4) false]) 0), (53, RV.d (DV.bool true)), (59, RV.iptr (DV.agg [DV.str x.1, DV.lst 3 (List.map vD x.2) false, DV.lst 3 (List.map vD x.3) false, DV.lst 3 (List.map vD x.4) false]) 0), (64, RV.iptr (DV.agg [DV.str y.1, DV.lst 3 (List.map vD y.2) false, DV.lst 3 (List.map vD y.3) false, DV.lst 3 (List.map vD y.4) false]) 0), (67, RV.d (DV.bool (decide (x.n = y.n)))), (16, RV.d (DV.int Go.IntKind.i64 (Nat.cast (R := Int) (i + 1)))), (14, RV.d (DV.bool true)), (69, RV.d (DV.bool true))] [decide (0 ≤ (Nat.cast (R := Int) i) ∧ (Nat.cast (R := Int) i) < (Nat.cast (R := Int) (a.map chD).length)), decide (0 ≤ (Nat.cast (R := Int) i) ∧ (Nat.cast (R := Int) i) < (Nat.cast (R := Int) (b.map chD).length)), decide (0 ≤ (Nat.cast (R := Int) i) ∧ (Nat.cast (R := Int) i) < (Nat.cast (R := Int) (a.map chD).length)), decide (0 ≤ (Nat.cast (R := Int) i) ∧ (Nat.cast (R := Int) i) < (Nat.cast (R := Int) (b.map chD).length)), isR (DV.lst 3 (List.map vD x.2) false), isR (DV.lst 3 (List.map vD y.2) false), decide (0 ≤ (Nat.cast (R := Int) i) ∧ (Nat.cast (R := Int) i) < (Nat.cast (R := Int) (a.map chD).length)), decide (0 ≤ (Nat.cast (R := Int) i) ∧ (Nat.cast (R := Int) i) < (Nat.cast (R := Int) (b.map chD).length)), isR (DV.lst 3 (List.map vD x.3) false), isR (DV.lst 3 (List.map vD y.3) false), decide (0 ≤ (Nat.cast (R := Int) i) ∧ (Nat.cast (R := Int) i) < (Nat.cast (R := Int) (a.map chD).length)), decide (0 ≤ (Nat.cast (R := Int) i) ∧ (Nat.cast (R := Int) i) < (Nat.cast (R := Int) (b.map chD).length)), isR (DV.lst 3 (List.map vD x.4) false), isR (DV.lst 3 (List.map vD y.4) false)] [(RV.d (DV.bool (decide ((Nat.cast (R := Int) i) < (Nat.cast (R := Int) (a.map chD).length)))), RV.d (DV.bool true)), (RV.iptr ((a.map chD).getD (Nat.cast (R := Int) i).toNat DV.nilp) 0, RV.iptr (DV.agg [DV.str x.1, DV.lst 3 (List.map vD x.2) false, DV.lst 3 (List.map vD x.3) false, DV.lst 3 (List.map vD x.4) false]) 0), (RV.iptr ((b.map chD).getD (Nat.cast (R := Int) i).toNat DV.nilp) 0, RV.iptr (DV.agg [DV.str y.1, DV.lst 3 (List.map vD y.2) false, DV.lst 3 (List.map vD y.3) false, DV.lst 3 (List.map vD y.4) false]) 0), (RV.d (DV.bool !x.1 == y.1), RV.d (DV.bool false)), (RV.d (DV.bool false), RV.d (DV.bool false)), (RV.iptr ((a.map chD).getD (Nat.cast (R := Int) i).toNat DV.nilp) 0, RV.iptr (DV.agg [DV.str x.1, DV.lst 3 (List.map vD x.2) false, DV.lst 3 (List.map vD x.3) false, DV.lst 3 (List.map vD x.4) false]) 0), (RV.iptr ((b.map chD).getD (Nat.cast (R := Int) i).toNat DV.nilp) 0, RV.iptr (DV.agg [DV.str y.1, DV.lst 3 (List.map vD y.2) false, DV.lst 3 (List.map vD y.3) false, DV.lst 3 (List.map vD y.4) false]) 0), (RV.d (DV.bool (decide (unR ((chD x).cells.getD 1 DV.nilp) = unR ((chD y).cells.getD 1 DV.nilp)))), RV.d (DV.bool true)), (RV.d (DV.bool false), RV.d (DV.bool false)), (RV.iptr ((a.map chD).getD (Nat.cast (R := Int) i).toNat DV.nilp) 0, RV.iptr (DV.agg [DV.str x.1, DV.lst 3 (List.map vD x.2) false, DV.lst 3 (List.map vD x.3) false, DV.lst 3 (List.map vD x.4) false]) 0), (RV.iptr ((b.map chD).getD (Nat.cast (R := Int) i).toNat DV.nilp) 0, RV.iptr (DV.agg [DV.str y.1, DV.lst 3 (List.map vD y.2) false, DV.lst 3 (List.map vD y.3) false, DV.lst 3 (List.map vD y.4) false]) 0), (RV.d (DV.bool (decide (unR ((chD x).cells.getD 2 DV.nilp) = unR ((chD y).cells.getD 2 DV.nilp)))), RV.d (DV.bool true)), (RV.d (DV.bool false), RV.d (DV.bool false)), (RV.iptr ((a.map chD).getD (Nat.cast (R := Int) i).toNat DV.nilp) 0, RV.iptr (DV.agg [DV.str x.1, DV.lst 3 (List.map vD x.2) false, DV.lst 3 (List.map vD x.3) false, DV.lst 3 (List.map vD x.4) false]) 0), (RV.iptr ((b.map chD).getD (Nat.cast (R := Int) i).toNat DV.nilp) 0, RV.iptr (DV.agg [DV.str y.1, DV.lst 3 (List.map vD y.2) false, DV.lst 3 (List.map vD y.3) false, DV.lst 3 (List.map vD y.4) false]) 0), (RV.d (DV.bool (decide (unR ((chD x).cells.getD 3 DV.nilp) = unR ((chD y).cells.getD 3 DV.nilp)))), RV.d (DV.bool (decide (x.n = y.n)))), (RV.d (DV.bool !decide (x.n = y.n)), RV.d (DV.bool true))] rfl (by kernel_rfl : runEnd (cfT t2) true _ 1000 0 _ _ (saS (a.map chD) (b.map chD) i) = some (RV.d (DV.bool false), [], _, _)) (by refine ⟨?_, ?_, ?_, ?_, ?_, ?_, ?_, ?_, ?_, ?_, ?_, ?_, ?_, ?_, trivial⟩ <;> (have hlt := lt_map h14; first | exact bd_map hlt | exact bd_map (hb2 hlt) | exact ok_k (hxo hlt) | exact ok_k (hyo hlt) | exact ok_o (hxo hlt) | exact ok_o (hyo hlt) | exact ok_n (hxo hlt) | exact ok_n (hyo hlt))) (by refine ⟨le_bool h14, ?_, ?_, ?_, ?_, ?_, ?_, ?_, ?_, ?_, ?_, ?_, ?_, ?_, ?_, ?_, le_bool h69, trivial⟩ <;> (have hlt := lt_map h14; first | exact ov_chg hlt (hx hlt) | exact ov_chg (hb2 hlt) (hy (hb2 hlt)) | exact ov_Eb (decide_eq_true (by assumption)) | exact ov_Eb (decide_eq_false (by assumption)) | exact ov_E x.n y.n | exact le_bool rfl | exact ov_succ (by omega) | exact le_bool rfl | exact le_bool (by simpa using c1))) ⟨by first | (rw [hend h14]; done) | first | (rw [hno (lt_map h14) (fun e => c1 (by rw [e]))]; done) | (rw [hno (lt_map h14) (fun e => c2 (by rw [e]))]; done) | (rw [hno (lt_map h14) (fun e => c3 (by rw [e]))]; done) | (have c4 : x.n ≠ y.n := (by simpa using h69); rw [hno (lt_map h14) (fun e => c4 (by rw [e]))]), rfl⟩
            · skip
              refine WK.segA ok 1000 0 [(19, RV.iptr (DV.agg [DV.str x.1, DV.lst 3 (List.map vD x.2) false, DV.lst 3 (List.map vD x.3) false, DV.lst 3 (List.map vD x.4) false]) 0), (24, RV.iptr (DV.agg [DV.str y.1, DV.lst 3 (List.map vD y.2) false, DV.lst 3 (List.map vD y.3) false, DV.lst 3 (List.map vD y.4) false]) 0), (27, RV.d (DV.bool false)), (28, RV.d (DV.bool false)), (42, RV.d (DV.bool false)), (56, RV.d (DV.bool false)), (31, RV.iptr (DV.agg [DV.str x.1, DV.lst 3 (List.map vD x.2) false, DV.lst 3 (List.map vD x.3) false, DV.lst 3 (List.map vD x.4) false]) 0), (36, RV.iptr (DV.agg [DV.str y.1, DV.lst 3 (List.map vD y.2) false, DV.lst 3 (List.map vD y.3) false, DV.lst 3 (List.map vD y.4) false]) 0), (39, RV.d (DV.bool true)), (45, RV.iptr (DV.agg [DV.str x.1, DV.lst 3 (List.map vD x.2) false, DV.lst 3 (List.map vD x.3) false, DV.lst 3 (List.map vD x.4) false]) 0), (50, RV.iptr (DV.agg [DV.str y.1, DV.lst 3 (List.map vD y.2) false, DV.lst 3 (List.map vD y.3) false, DV.lst 3 (List.map vD y.4) false]) 0), (53, RV.d (DV.bool true)), (59, RV.iptr (DV.agg [DV.str x.1, DV.lst 3 (List.map vD x.2) false, DV.lst 3 (List.map vD x.3) false, DV.lst 3 (List.map vD x.4) false]) 0), (64, RV.iptr (DV.agg [DV.str y.1, DV.lst 3 (List.map vD y.2) false, DV.lst 3 (List.map vD y.3) false, DV.lst 3 (List.map vD y.4) false]) 0), (67, RV.d (DV.bool (decide (x.n = y.n)))), (16, RV.d (DV.int Go.IntKind.i64 (Nat.cast (R := Int) (i + 1)))), (14, RV.d (DV.bool true)), (69, RV.d (DV.bool false))] [] [0, 1, 5] [decide (0 ≤ (Nat.cast (R := Int) i) ∧ (Nat.cast (R := Int) i) < (Nat.cast (R := Int) (a.map chD).length)), decide (0 ≤ (Nat.cast (R := Int) i) ∧ (Nat.cast (R := Int) i) < (Nat.cast (R := Int) (b.map chD).length)), decide (0 ≤ (Nat.cast (R := Int) i) ∧ (Nat.cast (R := Int) i) < (Nat.cast (R := Int) (a.map chD).length)), decide (0 ≤ (Nat.cast (R := Int) i) ∧ (Nat.cast (R := Int) i) < (Nat.cast (R := Int) (b.map chD).length)), isR (DV.lst 3 (List.map vD x.2) false), isR (DV.lst 3 (List.map vD y.2) false), decide (0 ≤ (Nat.cast (R := Int) i) ∧ (Nat.cast (R := Int) i) < (Nat.cast (R := Int) (a.map chD).length)), decide (0 ≤ (Nat.cast (R := Int) i) ∧ (Nat.cast (R := Int) i) < (Nat.cast (R := Int) (b.map chD).length)), isR (DV.lst 3 (List.map vD x.3) false), isR (DV.lst 3 (List.map vD y.3) false), decide (0 ≤ (Nat.cast (R := Int) i) ∧ (Nat.cast (R := Int) i) < (Nat.cast (R := Int) (a.map chD).length)), decide (0 ≤ (Nat.cast (R := Int) i) ∧ (Nat.cast (R := Int) i) < (Nat.cast (R := Int) (b.map chD).length)), isR (DV.lst 3 (List.map vD x.4) false), isR (DV.lst 3 (List.map vD y.4) false)] [(RV.d (DV.bool (decide ((Nat.cast (R := Int) i) < (Nat.cast (R := Int) (a.map chD).length)))), RV.d (DV.bool true)), (RV.iptr ((a.map chD).getD (Nat.cast (R := Int) i).toNat DV.nilp) 0, RV.iptr (DV.agg [DV.str x.1, DV.lst 3 (List.map vD x.2) false, DV.lst 3 (List.map vD x.3) false, DV.lst 3 (List.map vD x.4) false]) 0), (RV.iptr ((b.map chD).getD (Nat.cast (R := Int) i).toNat DV.nilp) 0, RV.iptr (DV.agg [DV.str y.1, DV.lst 3 (List.map vD y.2) false, DV.lst 3 (List.map vD y.3) false, DV.lst 3 (List.map vD y.4) false]) 0), (RV.d (DV.bool !x.1 == y.1), RV.d (DV.bool false)), (RV.d (DV.bool false), RV.d (DV.bool false)), (RV.iptr ((a.map chD).getD (Nat.cast (R := Int) i).toNat DV.nilp) 0, RV.iptr (DV.agg [DV.str x.1, DV.lst 3 (List.map vD x.2) false, DV.lst 3 (List.map vD x.3) false, DV.lst 3 (List.map vD x.4) false]) 0), (RV.iptr ((b.map chD).getD (Nat.cast (R := Int) i).toNat DV.nilp) 0, RV.iptr (DV.agg [DV.str y.1, DV.lst 3 (List.map vD y.2) false, DV.lst 3 (List.map vD y.3) false, DV.lst 3 (List.map vD y.4) false]) 0), (RV.d (DV.bool (decide (unR ((chD x).cells.getD 1 DV.nilp) = unR ((chD y).cells.getD 1 DV.nilp)))), RV.d (DV.bool true)), (RV.d (DV.bool false), RV.d (DV.bool false)), (RV.iptr ((a.map chD).getD (Nat.cast (R := Int) i).toNat DV.nilp) 0, RV.iptr (DV.agg [DV.str x.1, DV.lst 3 (List.map vD x.2) false, DV.lst 3 (List.map vD x.3) false, DV.lst 3 (List.map vD x.4) false]) 0), (RV.iptr ((b.map chD).getD (Nat.cast (R := Int) i).toNat DV.nilp) 0, RV.iptr (DV.agg [DV.str y.1, DV.lst 3 (List.map vD y.2) false, DV.lst 3 (List.map vD y.3) false, DV.lst 3 (List.map vD y.4) false]) 0), (RV.d (DV.bool (decide (unR ((chD x).cells.getD 2 DV.nilp) = unR ((chD y).cells.getD 2 DV.nilp)))), RV.d (DV.bool true)), (RV.d (DV.bool false), RV.d (DV.bool false)), (RV.iptr ((a.map chD).getD (Nat.cast (R := Int) i).toNat DV.nilp) 0, RV.iptr (DV.agg [DV.str x.1, DV.lst 3 (List.map vD x.2) false, DV.lst 3 (List.map vD x.3) false, DV.lst 3 (List.map vD x.4) false]) 0), (RV.iptr ((b.map chD).getD (Nat.cast (R := Int) i).toNat DV.nilp) 0, RV.iptr (DV.agg [DV.str y.1, DV.lst 3 (List.map vD y.2) false, DV.lst 3 (List.map vD y.3) false, DV.lst 3 (List.map vD y.4) false]) 0), (RV.d (DV.bool (decide (unR ((chD x).cells.getD 3 DV.nilp) = unR ((chD y).cells.getD 3 DV.nilp)))), RV.d (DV.bool (decide (x.n = y.n)))), (RV.d (DV.bool !decide (x.n = y.n)), RV.d (DV.bool false)), (RV.d (DV.int Go.IntKind.i64 (Go.IntKind.i64.wrap ((Nat.cast (R := Int) i) + 1))), RV.d (DV.int Go.IntKind.i64 (Nat.cast (R := Int) (i + 1))))] rfl (by kernel_rfl : runSegA (cfT t2) 1000 0 _ _ _ _ (saS (a.map chD) (b.map chD) i) = some (stackAt saC 0, saS (a.map chD) (b.map chD) (i + 1), _, _)) (by refine ⟨?_, ?_, ?_, ?_, ?_, ?_, ?_, ?_, ?_, ?_, ?_, ?_, ?_, ?_, trivial⟩ <;> (have hlt := lt_map h14; first | exact bd_map hlt | exact bd_map (hb2 hlt) | exact ok_k (hxo hlt) | exact ok_k (hyo hlt) | exact ok_o (hxo hlt) | exact ok_o (hyo hlt) | exact ok_n (hxo hlt) | exact ok_n (hyo hlt))) (by refine ⟨le_bool h14, ?_, ?_, ?_, ?_, ?_, ?_, ?_, ?_, ?_, ?_, ?_, ?_, ?_, ?_, ?_, le_bool h69, ?_, trivial⟩ <;> (have hlt := lt_map h14; first | exact ov_chg hlt (hx hlt) | exact ov_chg (hb2 hlt) (hy (hb2 hlt)) | exact ov_Eb (decide_eq_true (by assumption)) | exact ov_Eb (decide_eq_false (by assumption)) | exact ov_E x.n y.n | exact le_bool rfl | exact ov_succ (by omega) | exact le_bool rfl | exact le_bool (by simpa using c1))) ?_
              have hl := lt_map h14
              have c4 : x.n = y.n := (by simpa using h69)
              refine ih (i + 1) ⟨hl, ?_⟩ (by omega)
              rw [List.take_add_one, List.take_add_one, ht, List.getElem?_eq_getElem hl, List.getElem?_eq_getElem (hb2 hl), hx hl, hy (hb2 hl), chg_ext c1 c2 c3 c4]
          · skip
            exact WK.fin ok 1000 0 [(19, RV.iptr (DV.agg [DV.str x.1, DV.lst 3 (List.map vD x.2) false, DV.lst 3 (List.map vD x.3) false, DV.lst 3 (List.map vD x.4) false]) 0), (24, RV.iptr (DV.agg [DV.str y.1, DV.lst 3 (List.map vD y.2) false, DV.lst 3 (List.map vD y.3) false, DV.lst 3 (List.map vD y.4) false]) 0), (27, RV.d (DV.bool false)), (28, RV.d (DV.bool false)), (42, RV.d (DV.bool false)), (56, RV.d (DV.bool false)), (31, RV.iptr (DV.agg [DV.str x.1, DV.lst 3 (List.map vD x.2) false, DV.lst 3 (List.map vD x.3) false, DV.lst 3 (List.map vD x.4) false]) 0), (36, RV.iptr (DV.agg [DV.str y.1, DV.lst 3 (List.map vD y.2) false, DV.lst 3 (List.map vD y.3) false, DV.lst 3 (List.map vD y.4) false]) 0), (39, RV.d (DV.bool true)), (45, RV.iptr (DV.agg [DV.str x.1, DV.lst 3 (List.map vD x.2) false, DV.lst 3 (List.map vD x.3) false, DV.lst 3 (List.map vD x.4) false]) 0), (50, RV.iptr (DV.agg [DV.str y.1, DV.lst 3 (List.map vD y.2) false, DV.lst 3 (List.map vD y.3) false, DV.lst 3 (List.map vD y.4) false]) 0), (53, RV.d (DV.bool true)), (59, RV.iptr (DV.agg [DV.str x.1, DV.lst 3 (List.map vD x.2) false, DV.lst 3 (List.map vD x.3) false, DV.lst 3 (List.map vD x.4) false]) 0), (64, RV.iptr (DV.agg [DV.str y.1, DV.lst 3 (List.map vD y.2) false, DV.lst 3 (List.map vD y.3) false, DV.lst 3 (List.map vD y.4) false]) 0), (67, RV.d (DV.bool (decide (x.n = y.n)))), (16, RV.d (DV.int Go.IntKind.i64 (Nat.cast (R := Int) (i + 1)))), (14, RV.d (DV.bool false))] [] [(RV.d (DV.bool (decide ((Nat.cast (R := Int) i) < (Nat.cast (R := Int) (a.map chD).length)))), RV.d (DV.bool false))] rfl (by kernel_rfl : runEnd (cfT t2) true _ 1000 0 _ _ (saS (a.map chD) (b.map chD) i) = some (RV.d (DV.bool true), [], _, _)) trivial ⟨le_bool h14, trivial⟩ ⟨by first | (rw [hend h14]; done) | first | (rw [hno (lt_map h14) (fun e => c1 (by rw [e]))]; done) | (rw [hno (lt_map h14) (fun e => c2 (by rw [e]))]; done) | (rw [hno (lt_map h14) (fun e => c3 (by rw [e]))]; done) | (have c4 : x.n ≠ y.n := (by simpa using h69); rw [hno (lt_map h14) (fun e => c4 (by rw [e]))]), rfl⟩
        · skip
          rcases Bool.eq_false_or_eq_true (decide ((Nat.cast (R := Int) i) < (Nat.cast (R := Int) (a.map chD).length)) : Bool) with h14 | h14
          · skip
            exact WK.fin ok 1000 0 [(19, RV.iptr (DV.agg [DV.str x.1, DV.lst 3 (List.map vD x.2) false, DV.lst 3 (List.map vD x.3) false, DV.lst 3 (List.map vD x.4) false]) 0), (24, RV.iptr (DV.agg [DV.str y.1, DV.lst 3 (List.map vD y.2) false, DV.lst 3 (List.map vD y.3) false, DV.lst 3 (List.map vD y.4) false]) 0), (27, RV.d (DV.bool false)), (28, RV.d (DV.bool false)), (42, RV.d (DV.bool false)), (56, RV.d (DV.bool true)), (69, RV.d (DV.bool true)), (31, RV.iptr (DV.agg [DV.str x.1, DV.lst 3 (List.map vD x.2) false, DV.lst 3 (List.map vD x.3) false, DV.lst 3 (List.map vD x.4) false]) 0), (36, RV.iptr (DV.agg [DV.str y.1, DV.lst 3 (List.map vD y.2) false, DV.lst 3 (List.map vD y.3) false, DV.lst 3 (List.map vD y.4) false]) 0), (39, RV.d (DV.bool true)), (45, RV.iptr (DV.agg [DV.str x.1, DV.lst 3 (List.map vD x.2) false, DV.lst 3 (List.map vD x.3) false, DV.lst 3 (List.map vD x.4) false]) 0), (50, RV.iptr (DV.agg [DV.str y.1, DV.lst 3 (List.map vD y.2) false, DV.lst 3 (List.map vD y.3) false, DV.lst 3 (List.map vD y.4) false]) 0), (53, RV.d (DV.bool false)), (14, RV.d (DV.bool true))] [decide (0 ≤ (Nat.cast (R := Int) i) ∧ (Nat.cast (R := Int) i) < (Nat.cast (R := Int) (a.map chD).length)), decide (0 ≤ (Nat.cast (R := Int) i) ∧ (Nat.cast (R := Int) i) < (Nat.cast (R := Int) (b.map chD).length)), decide (0 ≤ (Nat.cast (R := Int) i) ∧ (Nat.cast (R := Int) i) < (Nat.cast (R := Int) (a.map chD).length)), decide (0 ≤ (Nat.cast (R := Int) i) ∧ (Nat.cast (R := Int) i) < (Nat.cast (R := Int) (b.map chD).length)), isR (DV.lst 3 (List.map vD x.2) false), isR (DV.lst 3 (List.map vD y.2) false), decide (0 ≤ (Nat.cast (R := Int) i) ∧ (Nat.cast (R := Int) i) < (Nat.cast (R := Int) (a.map chD).length)), decide (0 ≤ (Nat.cast (R := Int) i) ∧ (Nat.cast (R := Int) i) < (Nat.cast (R := Int) (b.map chD).length)), isR (DV.lst 3 (List.map vD x.3) false), isR (DV.lst 3 (List.map vD y.3) false)] [(RV.d (DV.bool (decide ((Nat.cast (R := Int) i) < (Nat.cast (R := Int) (a.map chD).length)))), RV.d (DV.bool true)), (RV.iptr ((a.map chD).getD (Nat.cast (R := Int) i).toNat DV.nilp) 0, RV.iptr (DV.agg [DV.str x.1, DV.lst 3 (List.map vD x.2) false, DV.lst 3 (List.map vD x.3) false, DV.lst 3 (List.map vD x.4) false]) 0), (RV.iptr ((b.map chD).getD (Nat.cast (R := Int) i).toNat DV.nilp) 0, RV.iptr (DV.agg [DV.str y.1, DV.lst 3 (List.map vD y.2) false, DV.lst 3 (List.map vD y.3) false, DV.lst 3 (List.map vD y.4) false]) 0), (RV.d (DV.bool !x.1 == y.1), RV.d (DV.bool false)), (RV.d (DV.bool false), RV.d (DV.bool false)), (RV.iptr ((a.map chD).getD (Nat.cast (R := Int) i).toNat DV.nilp) 0, RV.iptr (DV.agg [DV.str x.1, DV.lst 3 (List.map vD x.2) false, DV.lst 3 (List.map vD x.3) false, DV.lst 3 (List.map vD x.4) false]) 0), (RV.iptr ((b.map chD).getD (Nat.cast (R := Int) i).toNat DV.nilp) 0, RV.iptr (DV.agg [DV.str y.1, DV.lst 3 (List.map vD y.2) false, DV.lst 3 (List.map vD y.3) false, DV.lst 3 (List.map vD y.4) false]) 0), (RV.d (DV.bool (decide (unR ((chD x).cells.getD 1 DV.nilp) = unR ((chD y).cells.getD 1 DV.nilp)))), RV.d (DV.bool true)), (RV.d (DV.bool false), RV.d (DV.bool false)), (RV.iptr ((a.map chD).getD (Nat.cast (R := Int) i).toNat DV.nilp) 0, RV.iptr (DV.agg [DV.str x.1, DV.lst 3 (List.map vD x.2) false, DV.lst 3 (List.map vD x.3) false, DV.lst 3 (List.map vD x.4) false]) 0), (RV.iptr ((b.map chD).getD (Nat.cast (R := Int) i).toNat DV.nilp) 0, RV.iptr (DV.agg [DV.str y.1, DV.lst 3 (List.map vD y.2) false, DV.lst 3 (List.map vD y.3) false, DV.lst 3 (List.map vD y.4) false]) 0), (RV.d (DV.bool (decide (unR ((chD x).cells.getD 2 DV.nilp) = unR ((chD y).cells.getD 2 DV.nilp)))), RV.d (DV.bool false)), (RV.d (DV.bool true), RV.d (DV.bool true)), (RV.d (DV.bool true), RV.d (DV.bool true))] rfl (by kernel_rfl : runEnd (cfT t2) true _ 1000 0 _ _ (saS (a.map chD) (b.map chD) i) = some (RV.d (DV.bool false), [], _, _)) (by refine ⟨?_, ?_, ?_, ?_, ?_, ?_, ?_, ?_, ?_, ?_, trivial⟩ <;> (have hlt := lt_map h14; first | exact bd_map hlt | exact bd_map (hb2 hlt) | exact ok_k (hxo hlt) | exact ok_k (hyo hlt) | exact ok_o (hxo hlt) | exact ok_o (hyo hlt) | exact ok_n (hxo hlt) | exact ok_n (hyo hlt))) (by refine ⟨le_bool h14, ?_, ?_, ?_, ?_, ?_, ?_, ?_, ?_, ?_, ?_, ?_, ?_, ?_, trivial⟩ <;> (have hlt := lt_map h14; first | exact ov_chg hlt (hx hlt) | exact ov_chg (hb2 hlt) (hy (hb2 hlt)) | exact ov_Eb (decide_eq_true (by assumption)) | exact ov_Eb (decide_eq_false (by assumption)) | exact ov_E x.n y.n | exact le_bool rfl | exact ov_succ (by omega) | exact le_bool rfl | exact le_bool (by simpa using c1))) ⟨by first | (rw [hend h14]; done) | first | (rw [hno (lt_map h14) (fun e => c1 (by rw [e]))]; done) | (rw [hno (lt_map h14) (fun e => c2 (by rw [e]))]; done) | (rw [hno (lt_map h14) (fun e => c3 (by rw [e]))]; done) | (have c4 : x.n ≠ y.n := (by simpa using h69); rw [hno (lt_map h14) (fun e => c4 (by rw [e]))]), rfl⟩
          · skip
            exact WK.fin ok 1000 0 [(19, RV.iptr (DV.agg [DV.str x.1, DV.lst 3 (List.map vD x.2) false, DV.lst 3 (List.map vD x.3) false, DV.lst 3 (List.map vD x.4) false]) 0), (24, RV.iptr (DV.agg [DV.str y.1, DV.lst 3 (List.map vD y.2) false, DV.lst 3 (List.map vD y.3) false, DV.lst 3 (List.map vD y.4) false]) 0), (27, RV.d (DV.bool false)), (28, RV.d (DV.bool false)), (42, RV.d (DV.bool false)), (56, RV.d (DV.bool true)), (69, RV.d (DV.bool true)), (31, RV.iptr (DV.agg [DV.str x.1, DV.lst 3 (List.map vD x.2) false, DV.lst 3 (List.map vD x.3) false, DV.lst 3 (List.map vD x.4) false]) 0), (36, RV.iptr (DV.agg [DV.str y.1, DV.lst 3 (List.map vD y.2) false, DV.lst 3 (List.map vD y.3) false, DV.lst 3 (List.map vD y.4) false]) 0), (39, RV.d (DV.bool true)), (45, RV.iptr (DV.agg [DV.str x.1, DV.lst 3 (List.map vD x.2) false, DV.lst 3 (List.map vD x.3) false, DV.lst 3 (List.map vD x.4) false]) 0), (50, RV.iptr (DV.agg [DV.str y.1, DV.lst 3 (List.map vD y.2) false, DV.lst 3 (List.map vD y.3) false, DV.lst 3 (List.map vD y.4) false]) 0), (53, RV.d (DV.bool false)), (14, RV.d (DV.bool false))] [] [(RV.d (DV.bool (decide ((Nat.cast (R := Int) i) < (Nat.cast (R := Int) (a.map chD).length)))), RV.d (DV.bool false))] rfl (by kernel_rfl : runEnd (cfT t2) true _ 1000 0 _ _ (saS (a.map chD) (b.map chD) i) = some (RV.d (DV.bool true), [], _, _)) trivial ⟨le_bool h14, trivial⟩ ⟨by first | (rw [hend h14]; done) | first | (rw [hno (lt_map h14) (fun e => c1 (by rw [e]))]; done) | (rw [hno (lt_map h14) (fun e => c2 (by rw [e]))]; done) | (rw [hno (lt_map h14) (fun e => c3 (by rw [e]))]; done) | (have c4 : x.n ≠ y.n := (by simpa using h69); rw [hno (lt_map h14) (fun e => c4 (by rw [e]))]), rfl⟩
      · skip
        rcases Bool.eq_false_or_eq_true (decide ((Nat.cast (R := Int) i) < (Nat.cast (R := Int) (a.map chD).length)) : Bool) with h14 | h14
        · skip
          exact WK.fin ok 1000 0 [(19, RV.iptr (DV.agg [DV.str x.1, DV.lst 3 (List.map vD x.2) false, DV.lst 3 (List.map vD x.3) false, DV.lst 3 (List.map vD x.4) false]) 0), (24, RV.iptr (DV.agg [DV.str y.1, DV.lst 3 (List.map vD y.2) false, DV.lst 3 (List.map vD y.3) false, DV.lst 3 (List.map vD y.4) false]) 0), (27, RV.d (DV.bool false)), (28, RV.d (DV.bool false)), (42, RV.d (DV.bool true)), (56, RV.d (DV.bool true)), (69, RV.d (DV.bool true)), (31, RV.iptr (DV.agg [DV.str x.1, DV.lst 3 (List.map vD x.2) false, DV.lst 3 (List.map vD x.3) false, DV.lst 3 (List.map vD x.4) false]) 0), (36, RV.iptr (DV.agg [DV.str y.1, DV.lst 3 (List.map vD y.2) false, DV.lst 3 (List.map vD y.3) false, DV.lst 3 (List.map vD y.4) false]) 0), (39, RV.d (DV.bool false)), (14, RV.d (DV.bool true))] [decide (0 ≤ (Nat.cast (R := Int) i) ∧ (Nat.cast (R := Int) i) < (Nat.cast (R := Int) (a.map chD).length)), decide (0 ≤ (Nat.cast (R := Int) i) ∧ (Nat.cast (R := Int) i) < (Nat.cast (R := Int) (b.map chD).length)), decide (0 ≤ (Nat.cast (R := Int) i) ∧ (Nat.cast (R := Int) i) < (Nat.cast (R := Int) (a.map chD).length)), decide (0 ≤ (Nat.cast (R := Int) i) ∧ (Nat.cast (R := Int) i) < (Nat.cast (R := Int) (b.map chD).length)), isR (DV.lst 3 (List.map vD x.2) false), isR (DV.lst 3 (List.map vD y.2) false)] [(RV.d (DV.bool (decide ((Nat.cast (R := Int) i) < (Nat.cast (R := Int) (a.map chD).length)))), RV.d (DV.bool true)), (RV.iptr ((a.map chD).getD (Nat.cast (R := Int) i).toNat DV.nilp) 0, RV.iptr (DV.agg [DV.str x.1, DV.lst 3 (List.map vD x.2) false, DV.lst 3 (List.map vD x.3) false, DV.lst 3 (List.map vD x.4) false]) 0), (RV.iptr ((b.map chD).getD (Nat.cast (R := Int) i).toNat DV.nilp) 0, RV.iptr (DV.agg [DV.str y.1, DV.lst 3 (List.map vD y.2) false, DV.lst 3 (List.map vD y.3) false, DV.lst 3 (List.map vD y.4) false]) 0), (RV.d (DV.bool !x.1 == y.1), RV.d (DV.bool false)), (RV.d (DV.bool false), RV.d (DV.bool false)), (RV.iptr ((a.map chD).getD (Nat.cast (R := Int) i).toNat DV.nilp) 0, RV.iptr (DV.agg [DV.str x.1, DV.lst 3 (List.map vD x.2) false, DV.lst 3 (List.map vD x.3) false, DV.lst 3 (List.map vD x.4) false]) 0), (RV.iptr ((b.map chD).getD (Nat.cast (R := Int) i).toNat DV.nilp) 0, RV.iptr (DV.agg [DV.str y.1, DV.lst 3 (List.map vD y.2) false, DV.lst 3 (List.map vD y.3) false, DV.lst 3 (List.map vD y.4) false]) 0), (RV.d (DV.bool (decide (unR ((chD x).cells.getD 1 DV.nilp) = unR ((chD y).cells.getD 1 DV.nilp)))), RV.d (DV.bool false)), (RV.d (DV.bool true), RV.d (DV.bool true)), (RV.d (DV.bool true), RV.d (DV.bool true)), (RV.d (DV.bool true), RV.d (DV.bool true))] rfl (by kernel_rfl : runEnd (cfT t2) true _ 1000 0 _ _ (saS (a.map chD) (b.map chD) i) = some (RV.d (DV.bool false), [], _, _)) (by refine ⟨?_, ?_, ?_, ?_, ?_, ?_, trivial⟩ <;> (have hlt := lt_map h14; first | exact bd_map hlt | exact bd_map (hb2 hlt) | exact ok_k (hxo hlt) | exact ok_k (hyo hlt) | exact ok_o (hxo hlt) | exact ok_o (hyo hlt) | exact ok_n (hxo hlt) | exact ok_n (hyo hlt))) (by refine ⟨le_bool h14, ?_, ?_, ?_, ?_, ?_, ?_, ?_, ?_, ?_, ?_, trivial⟩ <;> (have hlt := lt_map h14; first | exact ov_chg hlt (hx hlt) | exact ov_chg (hb2 hlt) (hy (hb2 hlt)) | exact ov_Eb (decide_eq_true (by assumption)) | exact ov_Eb (decide_eq_false (by assumption)) | exact ov_E x.n y.n | exact le_bool rfl | exact ov_succ (by omega) | exact le_bool rfl | exact le_bool (by simpa using c1))) ⟨by first | (rw [hend h14]; done) | first | (rw [hno (lt_map h14) (fun e => c1 (by rw [e]))]; done) | (rw [hno (lt_map h14) (fun e => c2 (by rw [e]))]; done) | (rw [hno (lt_map h14) (fun e => c3 (by rw [e]))]; done) | (have c4 : x.n ≠ y.n := (by simpa using h69); rw [hno (lt_map h14) (fun e => c4 (by rw [e]))]), rfl⟩
        · skip
          exact WK.fin ok 1000 0 [(19, RV.iptr (DV.agg [DV.str x.1, DV.lst 3 (List.map vD x.2) false, DV.lst 3 (List.map vD x.3) false, DV.lst 3 (List.map vD x.4) false]) 0), (24, RV.iptr (DV.agg [DV.str y.1, DV.lst 3 (List.map vD y.2) false, DV.lst 3 (List.map vD y.3) false, DV.lst 3 (List.map vD y.4) false]) 0), (27, RV.d (DV.bool false)), (28, RV.d (DV.bool false)), (42, RV.d (DV.bool true)), (56, RV.d (DV.bool true)), (69, RV.d (DV.bool true)), (31, RV.iptr (DV.agg [DV.str x.1, DV.lst 3 (List.map vD x.2) false, DV.lst 3 (List.map vD x.3) false, DV.lst 3 (List.map vD x.4) false]) 0), (36, RV.iptr (DV.agg [DV.str y.1, DV.lst 3 (List.map vD y.2) false, DV.lst 3 (List.map vD y.3) false, DV.lst 3 (List.map vD y.4) false]) 0), (39, RV.d (DV.bool false)), (14, RV.d (DV.bool false))] [] [(RV.d (DV.bool (decide ((Nat.cast (R := Int) i) < (Nat.cast (R := Int) (a.map chD).length)))), RV.d (DV.bool false))] rfl (by kernel_rfl : runEnd (cfT t2) true _ 1000 0 _ _ (saS (a.map chD) (b.map chD) i) = some (RV.d (DV.bool true), [], _, _)) trivial ⟨le_bool h14, trivial⟩ ⟨by first | (rw [hend h14]; done) | first | (rw [hno (lt_map h14) (fun e => c1 (by rw [e]))]; done) | (rw [hno (lt_map h14) (fun e => c2 (by rw [e]))]; done) | (rw [hno (lt_map h14) (fun e => c3 (by rw [e]))]; done) | (have c4 : x.n ≠ y.n := (by simpa using h69); rw [hno (lt_map h14) (fun e => c4 (by rw [e]))]), rfl⟩
    · skip
      rcases Bool.eq_false_or_eq_true (decide ((Nat.cast (R := Int) i) < (Nat.cast (R := Int) (a.map chD).length)) : Bool) with h14 | h14
      · skip
        exact WK.fin ok 1000 0 [(19, RV.iptr (DV.agg [DV.str x.1, DV.lst 3 (List.map vD x.2) false, DV.lst 3 (List.map vD x.3) false, DV.lst 3 (List.map vD x.4) false]) 0), (24, RV.iptr (DV.agg [DV.str y.1, DV.lst 3 (List.map vD y.2) false, DV.lst 3 (List.map vD y.3) false, DV.lst 3 (List.map vD y.4) false]) 0), (27, RV.d (DV.bool true)), (28, RV.d (DV.bool true)), (42, RV.d (DV.bool true)), (56, RV.d (DV.bool true)), (69, RV.d (DV.bool true)), (14, RV.d (DV.bool true))] [decide (0 ≤ (Nat.cast (R := Int) i) ∧ (Nat.cast (R := Int) i) < (Nat.cast (R := Int) (a.map chD).length)), decide (0 ≤ (Nat.cast (R := Int) i) ∧ (Nat.cast (R := Int) i) < (Nat.cast (R := Int) (b.map chD).length))] [(RV.d (DV.bool (decide ((Nat.cast (R := Int) i) < (Nat.cast (R := Int) (a.map chD).length)))), RV.d (DV.bool true)), (RV.iptr ((a.map chD).getD (Nat.cast (R := Int) i).toNat DV.nilp) 0, RV.iptr (DV.agg [DV.str x.1, DV.lst 3 (List.map vD x.2) false, DV.lst 3 (List.map vD x.3) false, DV.lst 3 (List.map vD x.4) false]) 0), (RV.iptr ((b.map chD).getD (Nat.cast (R := Int) i).toNat DV.nilp) 0, RV.iptr (DV.agg [DV.str y.1, DV.lst 3 (List.map vD y.2) false, DV.lst 3 (List.map vD y.3) false, DV.lst 3 (List.map vD y.4) false]) 0), (RV.d (DV.bool !x.1 == y.1), RV.d (DV.bool true)), (RV.d (DV.bool true), RV.d (DV.bool true)), (RV.d (DV.bool true), RV.d (DV.bool true)), (RV.d (DV.bool true), RV.d (DV.bool true)), (RV.d (DV.bool true), RV.d (DV.bool true))] rfl (by kernel_rfl : runEnd (cfT t2) true _ 1000 0 _ _ (saS (a.map chD) (b.map chD) i) = some (RV.d (DV.bool false), [], _, _)) (by refine ⟨?_, ?_, trivial⟩ <;> (have hlt := lt_map h14; first | exact bd_map hlt | exact bd_map (hb2 hlt) | exact ok_k (hxo hlt) | exact ok_k (hyo hlt) | exact ok_o (hxo hlt) | exact ok_o (hyo hlt) | exact ok_n (hxo hlt) | exact ok_n (hyo hlt))) (by refine ⟨le_bool h14, ?_, ?_, ?_, ?_, ?_, ?_, ?_, trivial⟩ <;> (have hlt := lt_map h14; first | exact ov_chg hlt (hx hlt) | exact ov_chg (hb2 hlt) (hy (hb2 hlt)) | exact ov_Eb (decide_eq_true (by assumption)) | exact ov_Eb (decide_eq_false (by assumption)) | exact ov_E x.n y.n | exact le_bool rfl | exact ov_succ (by omega) | exact le_bool rfl | exact le_bool (by simpa using c1))) ⟨by first | (rw [hend h14]; done) | first | (rw [hno (lt_map h14) (fun e => c1 (by rw [e]))]; done) | (rw [hno (lt_map h14) (fun e => c2 (by rw [e]))]; done) | (rw [hno (lt_map h14) (fun e => c3 (by rw [e]))]; done) | (have c4 : x.n ≠ y.n := (by simpa using h69); rw [hno (lt_map h14) (fun e => c4 (by rw [e]))]), rfl⟩
      · skip
        exact WK.fin ok 1000 0 [(19, RV.iptr (DV.agg [DV.str x.1, DV.lst 3 (List.map vD x.2) false, DV.lst 3 (List.map vD x.3) false, DV.lst 3 (List.map vD x.4) false]) 0), (24, RV.iptr (DV.agg [DV.str y.1, DV.lst 3 (List.map vD y.2) false, DV.lst 3 (List.map vD y.3) false, DV.lst 3 (List.map vD y.4) false]) 0), (27, RV.d (DV.bool true)), (28, RV.d (DV.bool true)), (42, RV.d (DV.bool true)), (56, RV.d (DV.bool true)), (69, RV.d (DV.bool true)), (14, RV.d (DV.bool false))] [] [(RV.d (DV.bool (decide ((Nat.cast (R := Int) i) < (Nat.cast (R := Int) (a.map chD).length)))), RV.d (DV.bool false))] rfl (by kernel_rfl : runEnd (cfT t2) true _ 1000 0 _ _ (saS (a.map chD) (b.map chD) i) = some (RV.d (DV.bool true), [], _, _)) trivial ⟨le_bool h14, trivial⟩ ⟨by first | (rw [hend h14]; done) | first | (rw [hno (lt_map h14) (fun e => c1 (by rw [e]))]; done) | (rw [hno (lt_map h14) (fun e => c2 (by rw [e]))]; done) | (rw [hno (lt_map h14) (fun e => c3 (by rw [e]))]; done) | (have c4 : x.n ≠ y.n := (by simpa using h69); rw [hno (lt_map h14) (fun e => c4 (by rw [e]))]), rfl⟩
  rcases Bool.eq_false_or_eq_true ((Nat.cast (R := Int) (a.map chD).length) != (Nat.cast (R := Int) (b.map chD).length) : Bool) with h10 | h10
  · skip
    exact WK.fin ok 1000 0 [(10, RV.d (DV.bool true))] [] [(RV.d (DV.bool ((Nat.cast (R := Int) (a.map chD).length) != (Nat.cast (R := Int) (b.map chD).length))), RV.d (DV.bool true))] rfl (by kernel_rfl : runEnd (cfT t2) true _ 1000 0 _ _ (ini 70 [.d (chL a), .d (chL b)] []) = some (RV.d (DV.bool false), [], _, _)) trivial ⟨le_bool h10, trivial⟩ ⟨by congr 2; refine (decide_eq_false ?_).symm; rintro rfl; simp at h10, rfl⟩
  · skip
    refine WK.segA ok 1000 0 [(10, RV.d (DV.bool false))] [] [0, 1, 5] [] [(RV.d (DV.bool ((Nat.cast (R := Int) (a.map chD).length) != (Nat.cast (R := Int) (b.map chD).length))), RV.d (DV.bool false))] rfl (by kernel_rfl : runSegA (cfT t2) 1000 0 _ _ _ _ (ini 70 [.d (chL a), .d (chL b)] []) = some (stackAt saC 0, saS (a.map chD) (b.map chD) 0, _, _)) trivial ⟨le_bool h10, trivial⟩ ?_
    have e : (a.length : Int) = b.length := (by simpa using h10)
    exact hloop (by omega)
theorem sa_ent : EntOk Try.prog 16 (e2 smG) := by
  refine e2_ok fun x x2 y c hg hc => ?_
  simp only [smG, Option.some.injEq, Prod.mk.injEq] at hg
  obtain ⟨rfl, rfl⟩ := hg
  obtain ⟨a, rfl, wa⟩ := isL_spec (hc (isL x) (by simp))
  obtain ⟨l, rfl, hl⟩ := isL_spec (hc (isL x2) (by simp))
  rw [unL_chL, unL_chL]
  exact sa_c a l wa hl
end Go.Proofs.Ytljfolepmkcjlaa

/-
  The changes' laws ask first that a small thing goes right: a closed run.
-/
namespace Go.Proofs.Ytljfolepmkcjlaa
open Go.RowKit Am
set_option maxRecDepth 100000

theorem works22_c : C Try.prog 20 [] [] (fun r o => r = .d (.bool true) ∧ o = []) :=
  of_isTrue (lay_ok tb tb_ok brf 6000 1200 12) (by kernel_rfl : isTrue (layer Try.prog (konOf tb) brf cok 6000 1200 12 20 [] []) = true)
end Go.Proofs.Ytljfolepmkcjlaa

/-
  Plain laws of changes put together: key by key; three of them; there and back. No program in sight.
-/
namespace Go.Proofs.Ytljfolepmkcjlaa.Plain

/-! ### A list whose changes join those of another list, each at most once -/
/-- what a change comes to, followed by what stands at its key -/
def comb (x : Chg) : Option Chg → Chg
  | none => x
  | some y => ⟨x.t, x.k, x.o, y.n⟩
def links (b : List Chg) (x : Chg) : Bool := match look x b with
  | none => true
  | some y => decide (x.n = y.o)
def joinC (a b : List Chg) : List Chg := a.map (fun x => comb x (look x b)) ++ b.filter fun y => (look y a).isNone

theorem comb_key (x : Chg) (o : Option Chg) : (comb x o).t = x.t ∧ (comb x o).k = x.k := by cases o <;> exact ⟨rfl, rfl⟩
theorem findIdx_look {x : Chg} : ∀ {l : List Chg}, (l.findIdx? (fun y => keyB y x) = none ↔ look x l = none)
  | [] => by simp [look]
  | y :: r => by
    rw [List.findIdx?_cons, look_cons]
    cases h : keyB y x with
    | true => simp
    | false =>
      simp only [Bool.false_eq_true, if_false]
      rw [← findIdx_look (x := x) (l := r)]
      cases r.findIdx? (fun y => keyB y x) <;> simp
/-- one step where the key stands nowhere -/
theorem mStep_new {a : List Chg} {x : Chg} (h : look x a = none) : mStep a x = some (a ++ [x]) := by
  unfold mStep; rw [findIdx_look.2 h]
/-- one step where it stands -/
theorem mStep_old {a1 a2 : List Chg} {y x : Chg} (hn : ∀ z ∈ a1, keyB z x = false) (hk : keyB y x = true) :
    mStep (a1 ++ y :: a2) x = if y.n = x.o then some (a1 ++ ⟨y.t, y.k, y.o, x.n⟩ :: a2) else none := by
  have hf : (a1 ++ y :: a2).findIdx? (fun z => keyB z x) = some a1.length := by
    rw [List.findIdx?_eq_some_iff_getElem]
    refine ⟨by simp, by simpa using hk, fun j hj => ?_⟩
    rw [List.getElem_append_left hj]
    have := hn a1[j] (List.getElem_mem _)
    simp [this]
  unfold mStep
  rw [hf]
  simp only
  rw [show (a1 ++ y :: a2)[a1.length]? = some y by simp]
  simp only
  split
  · congr 1; simp
  · rfl
theorem look_split {x y : Chg} : ∀ {l : List Chg}, look x l = some y → ∃ l1 l2, l = l1 ++ y :: l2 ∧ ∀ z ∈ l1, keyB z x = false
  | [], h => by cases h
  | z :: r, h => by
    rw [look_cons] at h
    by_cases e : keyB z x = true
    · rw [if_pos e] at h; injection h with h; subst h
      exact ⟨[], r, rfl, by simp⟩
    · rw [if_neg e] at h
      obtain ⟨l1, l2, e1, e2⟩ := look_split h
      refine ⟨z :: l1, l2, by rw [e1]; rfl, fun w hw => ?_⟩
      rcases List.mem_cons.1 hw with rfl | hw
      · simpa using e
      · exact e2 w hw
/-- a list with no two of one key comes to itself -/
theorem mFold_self : ∀ {l a : List Chg}, nokey (a ++ l) → mFold a l = some (a ++ l)
  | [], a, _ => by simp [mFold]
  | x :: r, a, h => by
    have hx : look x a = none := look_none.2 fun y hy => (nokey_append.1 h).2.2 y hy x (by simp)
    simp only [mFold, mStep_new hx]
    have h2 : nokey ((a ++ [x]) ++ r) := by simpa using h
    rw [mFold_self h2]
    simp
theorem mFold_append : ∀ (l1 l2 a : List Chg), mFold a (l1 ++ l2) = match mFold a l1 with | none => none | some b => mFold b l2
  | [], l2, a => rfl
  | x :: r, l2, a => by
    simp only [List.cons_append, mFold]
    cases mStep a x with
    | none => rfl
    | some b => exact mFold_append r l2 b
/-- b's changes come behind a's: what has been gone through of b stands joined, b2 is to come -/
theorem mFold_join (a : List Chg) (ha : nokey a) : ∀ (b2 b1 : List Chg), nokey (b1 ++ b2) → (∀ x ∈ a, links b1 x = true) →
    mFold (joinC a b1) b2 = if (a.all (links (b1 ++ b2))) = true then some (joinC a (b1 ++ b2)) else none
  | [], b1, _, hl => by
    rw [List.append_nil, if_pos (List.all_eq_true.2 hl)]; rfl
  | y :: r, b1, hb, hl => by
    have hyb1 : look y b1 = none := look_none.2 fun z hz => (nokey_append.1 hb).2.2 z hz y (by simp)
    have hb' : nokey ((b1 ++ [y]) ++ r) := by simpa using hb
    have happ : b1 ++ y :: r = (b1 ++ [y]) ++ r := by simp
    -- x's partner among b1 and y
    have hlook : ∀ x : Chg, look x (b1 ++ [y]) = match look x b1 with | some z => some z | none => if keyB y x = true then some y else none := fun x => by
      rw [look_append]
      cases look x b1 with
      | some z => rfl
      | none => simp only [look_cons, look_nil]
    cases hy : look y a with
    | none =>
      -- a new key
      have hnx : ∀ x ∈ a, keyB y x = false := fun x hx => by
        cases e : keyB y x with
        | false => rfl
        | true => have := look_none.1 hy x hx; rw [keyB_symm e] at this; cases this
      have hla : ∀ x ∈ a, look x (b1 ++ [y]) = look x b1 := fun x hx => by
        rw [hlook x, hnx x hx]
        cases look x b1 <;> rfl
      have hj : joinC a (b1 ++ [y]) = joinC a b1 ++ [y] := by
        unfold joinC
        rw [List.filter_append]
        simp only [List.filter_cons, List.filter_nil, hy, Option.isNone_none, if_true]
        rw [← List.append_assoc]
        congr 2
        apply List.map_congr_left
        intro x hx
        rw [hla x hx]
      have hnew : look y (joinC a b1) = none := look_none.2 fun z hz => by
        rcases List.mem_append.1 hz with hz | hz
        · obtain ⟨x, hx, rfl⟩ := List.mem_map.1 hz
          have := hnx x hx
          cases e : keyB (comb x (look x b1)) y with
          | false => rfl
          | true =>
            rw [keyB_iff, (comb_key _ _).1, (comb_key _ _).2] at e
            rw [keyB_iff.2 ⟨e.1.symm, e.2.symm⟩] at this; cases this
        · exact look_none.1 hyb1 z (List.mem_filter.1 hz).1
      simp only [mFold, mStep_new hnew]
      rw [← hj, happ]
      refine mFold_join a ha r (b1 ++ [y]) hb' fun x hx => ?_
      have := hl x hx
      unfold links at this ⊢
      rw [hla x hx]; exact this
    | some x0 =>
      have hx0 := look_mem hy
      have hk0 := look_key hy
      obtain ⟨a1, a2, ea, hne⟩ := look_split hy
      have hk0' := keyB_symm hk0
      have hx0b1 : look x0 b1 = none := by rw [look_congr hk0]; exact hyb1
      -- others are not of this key
      have hoth : ∀ x ∈ a, x ≠ x0 → keyB y x = false := fun x hx hxe => by
        cases e : keyB y x with
        | false => rfl
        | true =>
          have h1 := look_of ha hx (x := y) (keyB_symm e)
          rw [hy] at h1; injection h1 with h1; exact absurd h1.symm hxe
      have hla : ∀ x ∈ a, x ≠ x0 → look x (b1 ++ [y]) = look x b1 := fun x hx hxe => by
        rw [hlook x, hoth x hx hxe]
        cases look x b1 <;> rfl
      have hla0 : look x0 (b1 ++ [y]) = some y := by
        rw [hlook x0, hx0b1]; simp only; rw [if_pos hk0']
      have hne1 : ∀ x ∈ a1, x ≠ x0 := fun x hx e => by
        have := hne x hx; rw [e, hk0] at this; cases this
      have hne2 : ∀ x ∈ a2, x ≠ x0 := fun x hx e => by
        rw [ea] at ha
        have := (nokey_append.1 ha).2.1.1 x hx
        rw [e, keyB_refl] at this; cases this
      have hj : joinC a b1 = a1.map (fun x => comb x (look x b1)) ++ x0 :: (a2.map (fun x => comb x (look x b1)) ++ b1.filter fun y => (look y a).isNone) := by
        have e0 : comb x0 (look x0 b1) = x0 := by rw [hx0b1]; rfl
        unfold joinC
        conv => lhs; arg 1; rw [ea]
        rw [List.map_append, List.map_cons, e0]
        simp
      have hj2 : joinC a (b1 ++ [y]) = a1.map (fun x => comb x (look x b1)) ++ ⟨x0.t, x0.k, x0.o, y.n⟩ :: (a2.map (fun x => comb x (look x b1)) ++ b1.filter fun y => (look y a).isNone) := by
        unfold joinC
        have hf : (b1 ++ [y]).filter (fun y => (look y a).isNone) = b1.filter fun y => (look y a).isNone := by
          rw [List.filter_append]
          simp only [List.filter_cons, List.filter_nil, hy, Option.isNone_some, Bool.false_eq_true, if_false, List.append_nil]
        have hm : a.map (fun x => comb x (look x (b1 ++ [y]))) = a1.map (fun x => comb x (look x b1)) ++ ⟨x0.t, x0.k, x0.o, y.n⟩ :: a2.map (fun x => comb x (look x b1)) := by
          have m1 : a1.map (fun x => comb x (look x (b1 ++ [y]))) = a1.map (fun x => comb x (look x b1)) := List.map_congr_left fun x hx => by
            rw [hla x (by rw [ea]; simp [hx]) (hne1 x hx)]
          have m2 : a2.map (fun x => comb x (look x (b1 ++ [y]))) = a2.map (fun x => comb x (look x b1)) := List.map_congr_left fun x hx => by
            rw [hla x (by rw [ea]; simp [hx]) (hne2 x hx)]
          conv => lhs; rw [ea]
          rw [List.map_append, List.map_cons, m1, m2, hla0]
          rfl
        rw [hf, hm]
        simp
      have hst := mStep_old (a1 := a1.map (fun x => comb x (look x b1))) (a2 := a2.map (fun x => comb x (look x b1)) ++ b1.filter fun y => (look y a).isNone) (y := x0) (x := y) (fun z hz => by
        obtain ⟨x, hx, rfl⟩ := List.mem_map.1 hz
        have := hne x hx
        simp only [keyB, (comb_key _ _).1, (comb_key _ _).2] at this ⊢; exact this) hk0
      rw [← hj] at hst
      by_cases he : x0.n = y.o
      · rw [if_pos he, ← hj2] at hst
        simp only [mFold, hst]
        rw [happ]
        refine mFold_join a ha r (b1 ++ [y]) hb' fun x hx => ?_
        by_cases hxe : x = x0
        · subst hxe; unfold links; rw [hla0]; exact decide_eq_true he
        · have := hl x hx
          unfold links at this ⊢
          rw [hla x hx hxe]; exact this
      · rw [if_neg he] at hst
        simp only [mFold, hst]
        rw [if_neg]
        intro hall
        have := List.all_eq_true.1 hall x0 hx0
        unfold links at this
        rw [happ, look_append, hla0] at this
        exact he (of_decide_eq_true this)
/-- two lists, each with no two of one key -/
theorem mFold_two {a b : List Chg} (ha : nokey a) (hb : nokey b) : mFold [] (a ++ b) = if a.all (links b) = true then some (joinC a b) else none := by
  rw [mFold_append, mFold_self (l := a) (a := []) (by simpa using ha)]
  simp only [List.nil_append]
  have h0 : joinC a [] = a := by
    unfold joinC
    simp only [List.filter_nil, List.append_nil, look_nil]
    conv => rhs; rw [← List.map_id a]
    apply List.map_congr_left
    intro x _; rfl
  have := mFold_join a ha b [] (by simpa using hb) (fun x _ => by unfold links; rw [look_nil])
  rw [h0, List.nil_append] at this
  exact this
end Go.Proofs.Ytljfolepmkcjlaa.Plain

/-
  Plain laws of changesets: two that come together; three; with their contrary; one upon the other, either way. No program in sight.
-/
namespace Go.Proofs.Ytljfolepmkcjlaa.Plain

/-! ### What may be -/
structure Set' (l : List Chg) : Prop where
  may : mayL l = true
  wf : ∀ c ∈ l, c.wf
theorem Set'.all {l : List Chg} (h : Set' l) : (∀ c ∈ l, mayC c = true ∧ rowOk c.k) ∧ sorted l := by
  have hm := h.may
  simp only [mayL, Bool.and_eq_true] at hm
  obtain ⟨a1, a2, _⟩ := mayI_spec hm.2 h.wf (by simp)
  exact ⟨a1, a2⟩
theorem Set'.nk {l : List Chg} (h : Set' l) : nokey l := nokey_sorted (fun c hc => (h.all.1 c hc).2) h.all.2
theorem Set'.len {l : List Chg} (h : Set' l) : l.length ≤ 1000 := by
  have hm := h.may
  simp only [mayL, Bool.and_eq_true, decide_eq_true_eq] at hm
  exact hm.1
theorem mayC_ne {c : Chg} (h : mayC c = true) : c.o ≠ c.n := by
  simp only [mayC, Bool.and_eq_true, Bool.not_eq_true', decide_eq_false_iff_not] at h
  exact h.1.1.1.2
theorem mayI_of : ∀ {l : List Chg} (p : Option Chg), (∀ c ∈ l, mayC c = true) → sorted l → (∀ q, p = some q → ∀ c ∈ l, cmpC q c < 0) → mayI p l = true
  | [], _, _, _, _ => rfl
  | x :: r, p, hm, hs, hp => by
    simp only [mayI, Bool.and_eq_true]
    refine ⟨⟨hm x (by simp), ?_⟩, mayI_of (some x) (fun c hc => hm c (by simp [hc])) hs.2 (fun q e c hc => by injection e with e; subst e; exact hs.1 c hc)⟩
    cases p with
    | none => rfl
    | some q => exact decide_eq_true (hp q rfl x (by simp))
theorem set_of {l : List Chg} (hm : ∀ c ∈ l, mayC c = true) (hw : ∀ c ∈ l, c.wf) (hs : sorted l) (hl : l.length ≤ 1000) : Set' l :=
  ⟨by simp only [mayL, Bool.and_eq_true, decide_eq_true_eq]; exact ⟨hl, mayI_of none hm hs (by simp)⟩, hw⟩
theorem set_nil : Set' [] := ⟨rfl, by simp⟩
theorem sorted_filter (p : Chg → Bool) : ∀ {l : List Chg}, sorted l → sorted (l.filter p)
  | [], _ => trivial
  | x :: r, h => by
    rw [List.filter_cons]
    split
    · exact ⟨fun y hy => h.1 y (List.mem_filter.1 hy).1, sorted_filter p h.2⟩
    · exact sorted_filter p h.2
/-- two sorted lists of the same members are one -/
theorem strict_ext : ∀ {a b : List Chg}, sorted a → sorted b → (∀ x, x ∈ a ↔ x ∈ b) → a = b
  | [], [], _, _, _ => rfl
  | [], y :: q, _, _, h => by have := (h y).2 (by simp); simp at this
  | x :: r, [], _, _, h => by have := (h x).1 (by simp); simp at this
  | x :: r, y :: q, ha, hb, h => by
    have e : x = y := by
      rcases List.mem_cons.1 ((h x).1 (by simp)) with e | hx
      · exact e
      · rcases List.mem_cons.1 ((h y).2 (by simp)) with e | hy
        · exact e.symm
        · have h1 := ha.1 y hy
          have h2 := hb.1 x hx
          rw [cmpC_anti x y] at h2; omega
    subst e
    have hxr : ¬ x ∈ r := fun hx => by have := ha.1 x hx; rw [cmpC_self] at this; omega
    have hxq : ¬ x ∈ q := fun hx => by have := hb.1 x hx; rw [cmpC_self] at this; omega
    rw [strict_ext ha.2 hb.2 fun z => ?_]
    constructor
    · intro hz
      rcases List.mem_cons.1 ((h z).1 (by simp [hz])) with e | hz'
      · exact absurd (e ▸ hz) hxr
      · exact hz'
    · intro hz
      rcases List.mem_cons.1 ((h z).2 (by simp [hz])) with e | hz'
      · exact absurd (e ▸ hz) hxq
      · exact hz'
/-- A changeset is told by what stands at each key. -/
theorem set_ext {a b : List Chg} (ha : Set' a) (hb : Set' b) (h : ∀ z, look z a = look z b) : a = b :=
  strict_ext ha.all.2 hb.all.2 fun x => ⟨fun hx => look_mem (by rw [← h x]; exact look_self ha.nk hx), fun hx => look_mem (by rw [h x]; exact look_self hb.nk hx)⟩
theorem set_empty {a : List Chg} (ha : nokey a) (h : ∀ z, look z a = none) : a = [] := by
  cases a with
  | nil => rfl
  | cons x r => have := h x; rw [look_self ha (by simp)] at this; cases this

/-! ### Two that come together -/
def both : Option Chg → Option Chg → Option Chg
  | some x, some y => if x.o = y.n then none else some ⟨x.t, x.k, x.o, y.n⟩
  | some x, none => some x
  | none, q => q
def cat (a b : List Chg) : List Chg := Srt.isort cmpC (live (joinC a b))

theorem nokey_join {a b : List Chg} (ha : nokey a) (hb : nokey b) : nokey (joinC a b) := by
  unfold joinC
  refine nokey_append.2 ⟨?_, nokey_filter _ hb, ?_⟩
  · clear hb
    induction a with
    | nil => trivial
    | cons x r ih =>
      refine ⟨fun y hy => ?_, ih ha.2⟩
      obtain ⟨z, hz, rfl⟩ := List.mem_map.1 hy
      have := ha.1 z hz
      simp only [keyB, (comb_key _ _).1, (comb_key _ _).2] at this ⊢; exact this
  · intro x hx y hy
    obtain ⟨z, hz, rfl⟩ := List.mem_map.1 hx
    have hy2 := (List.mem_filter.1 hy).2
    rw [Option.isNone_iff_eq_none] at hy2
    have := look_none.1 hy2 z hz
    simp only [keyB, (comb_key _ _).1, (comb_key _ _).2] at this ⊢; exact this
theorem look_map_key {f : Chg → Chg} (hf : ∀ x, (f x).t = x.t ∧ (f x).k = x.k) (z : Chg) : ∀ (l : List Chg), look z (l.map f) = (look z l).map f
  | [] => rfl
  | x :: r => by
    rw [List.map_cons, look_cons, look_cons, look_map_key hf z r]
    have : keyB (f x) z = keyB x z := by simp only [keyB, (hf x).1, (hf x).2]
    rw [this]
    split <;> rfl
theorem look_filter_not {z : Chg} {a : List Chg} : ∀ (b : List Chg), look z (b.filter fun y => (look y a).isNone) = if (look z a).isNone then look z b else none
  | [] => by simp [look]
  | y :: r => by
    rw [List.filter_cons, look_cons]
    by_cases hk : keyB y z = true
    · have e := look_congr hk a
      rw [if_pos hk]
      by_cases hn : (look y a).isNone = true
      · rw [if_pos hn, look_cons, if_pos hk, ← e, if_pos hn]
      · rw [if_neg hn, look_filter_not r, ← e, if_neg hn, if_neg hn]
    · rw [if_neg hk]
      split
      · rw [look_cons, if_neg hk]; exact look_filter_not r
      · exact look_filter_not r
theorem look_join {a b : List Chg} (z : Chg) : look z (joinC a b) = match look z a with | some x => some (comb x (look x b)) | none => look z b := by
  unfold joinC
  rw [look_append, look_map_key (f := fun x => comb x (look x b)) (fun x => comb_key _ _), look_filter_not]
  cases look z a with
  | none => simp
  | some x => rfl
theorem look_filter {p : Chg → Bool} (z : Chg) : ∀ {l : List Chg}, nokey l → look z (l.filter p) = match look z l with | some y => if p y = true then some y else none | none => none
  | [], _ => rfl
  | y :: r, hn => by
    rw [List.filter_cons, look_cons]
    by_cases hk : keyB y z = true
    · rw [if_pos hk]
      by_cases hp : p y = true
      · rw [if_pos hp, look_cons, if_pos hk]; simp only; rw [if_pos hp]
      · rw [if_neg hp, look_filter z hn.2]
        simp only
        rw [if_neg hp]
        have : look z r = none := look_none.2 fun w hw => by
          cases e : keyB w z with
          | false => rfl
          | true => have := hn.1 w hw; rw [keyB_trans hk (keyB_symm e)] at this; cases this
        rw [this]
    · rw [if_neg hk]
      split
      · rw [look_cons, if_neg hk]; exact look_filter z hn.2
      · exact look_filter z hn.2
theorem look_perm {a b : List Chg} (hp : a.Perm b) (hn : nokey a) (z : Chg) : look z a = look z b := by
  have hb := nokey_perm hp hn
  cases h : look z a with
  | none =>
    symm
    refine look_none.2 fun y hy => ?_
    exact look_none.1 h y (hp.mem_iff.2 hy)
  | some y => exact (look_of hb (hp.mem_iff.1 (look_mem h)) (look_key h)).symm
theorem nokey_cat {a b : List Chg} (ha : nokey a) (hb : nokey b) : nokey (cat a b) := nokey_perm (Srt.isort_ok preC _).2.symm (nokey_filter _ (nokey_join ha hb))
theorem look_cat {a b : List Chg} (ha : Set' a) (hb : Set' b) (z : Chg) : look z (cat a b) = both (look z a) (look z b) := by
  have hj := nokey_join ha.nk hb.nk
  unfold cat
  have hp := (Srt.isort_ok preC (live (joinC a b))).2
  rw [look_perm hp (nokey_perm hp.symm (nokey_filter _ hj))]
  unfold live
  rw [look_filter z hj, look_join]
  cases h : look z a with
  | none =>
    simp only
    cases h2 : look z b with
    | none => rfl
    | some y =>
      have := mayC_ne (hb.all.1 y (look_mem h2)).1
      simp [both, this]
  | some x =>
    have hx := mayC_ne (ha.all.1 x (look_mem h)).1
    have hxz : look x b = look z b := look_congr (look_key h) b
    simp only [hxz]
    cases h2 : look z b with
    | none => simp [both, comb, hx]
    | some y =>
      simp only [both, comb]
      by_cases e : x.o = y.n
      · simp [e]
      · simp [e]
theorem cat_mem {a b : List Chg} (ha : Set' a) (hb : Set' b) : ∀ c ∈ cat a b, mayC c = true ∧ c.wf := by
  intro c hc
  have hc2 := List.mem_filter.1 ((Srt.isort_ok preC _).2.mem_iff.1 hc)
  have hne : c.o ≠ c.n := by simpa using hc2.2
  rcases List.mem_append.1 hc2.1 with h | h
  · obtain ⟨x, hx, rfl⟩ := List.mem_map.1 h
    have mx := (ha.all.1 x hx).1
    have wx := ha.wf x hx
    cases h2 : look x b with
    | none => exact ⟨mx, wx⟩
    | some y =>
      have my := (hb.all.1 y (look_mem h2)).1
      have wy := hb.wf y (look_mem h2)
      rw [h2] at hne
      simp only [comb] at hne ⊢
      simp only [mayC, Bool.and_eq_true, Bool.not_eq_true', decide_eq_false_iff_not] at mx my ⊢
      exact ⟨⟨⟨⟨⟨mx.1.1.1.1, hne⟩, mx.1.1.2⟩, mx.1.2⟩, my.2⟩, wx.1, wx.2.1, wy.2.2⟩
  · have h := (List.mem_filter.1 h).1
    exact ⟨(hb.all.1 c h).1, hb.wf c h⟩
theorem cat_len {a b : List Chg} : (cat a b).length ≤ a.length + b.length := by
  unfold cat
  rw [(Srt.isort_ok preC _).2.length_eq]
  have h1 : (live (joinC a b)).length ≤ (joinC a b).length := List.length_filter_le _ _
  have h2 : (b.filter fun y => (look y a).isNone).length ≤ b.length := List.length_filter_le _ _
  have h3 : (joinC a b).length = a.length + (b.filter fun y => (look y a).isNone).length := by unfold joinC; rw [List.length_append, List.length_map]
  omega
theorem cat_set {a b : List Chg} (ha : Set' a) (hb : Set' b) (hl : (cat a b).length ≤ 1000) : Set' (cat a b) := by
  have hn := nokey_cat ha.nk hb.nk
  have hm := cat_mem ha hb
  refine set_of (fun c hc => (hm c hc).1) (fun c hc => (hm c hc).2) (sorted_of (Srt.isort_ok preC _).1 (distB_nokey (fun c hc => mayC_key (hm c hc).1 (hm c hc).2) hn)) hl
theorem concat_eq {a b : List Chg} (ha : Set' a) (hb : Set' b) : concatC a b = if a.all (links b) = true then (if mayL (cat a b) = true then (cat a b, 0) else ([], 2)) else ([], 220) := by
  unfold concatC mergeC
  rw [ha.may, hb.may, mFold_two ha.nk hb.nk]
  simp only [Bool.and_self, if_true]
  split
  · rename_i h; split at h
    · cases h
    · rename_i hl; rw [if_neg hl]
  · rename_i A h; split at h
    · rename_i hl; injection h with h; subst h; rw [if_pos hl]; rfl
    · cases h
theorem concat_ok {a b s : List Chg} (ha : Set' a) (hb : Set' b) (h : concatC a b = (s, 0)) : (∀ x ∈ a, links b x = true) ∧ s = cat a b ∧ Set' s := by
  rw [concat_eq ha hb] at h
  split at h
  · rename_i hl
    split at h
    · rename_i hm
      injection h with h1 _
      refine ⟨List.all_eq_true.1 hl, h1.symm, ?_⟩
      rw [← h1]; exact ⟨hm, fun c hc => (cat_mem ha hb c hc).2⟩
    · injection h with _ h2; cases h2
  · injection h with _ h2; cases h2
theorem concat_of {a b : List Chg} (ha : Set' a) (hb : Set' b) (hl : ∀ x ∈ a, links b x = true) (hlen : (cat a b).length ≤ 1000) : concatC a b = (cat a b, 0) := by
  rw [concat_eq ha hb, if_pos (List.all_eq_true.2 hl), if_pos (cat_set ha hb hlen).may]

/-! ### Three -/
theorem parts_law {a b c ab bc x y : List Chg} (ha : Set' a) (hb : Set' b) (hc : Set' c) (h1 : concatC a b = (ab, 0)) (h2 : concatC b c = (bc, 0)) (h3 : concatC ab c = (x, 0)) (h4 : concatC a bc = (y, 0)) : x = y := by
  obtain ⟨l1, e1, s1⟩ := concat_ok ha hb h1
  obtain ⟨l2, e2, s2⟩ := concat_ok hb hc h2
  obtain ⟨l3, e3, s3⟩ := concat_ok s1 hc h3
  obtain ⟨l4, e4, s4⟩ := concat_ok ha s2 h4
  refine set_ext s3 s4 fun z => ?_
  rw [e3, look_cat s1 hc, e4, look_cat ha s2, e1, look_cat ha hb, e2, look_cat hb hc]
  have na : ∀ p, look z a = some p → p.o ≠ p.n := fun p h => mayC_ne (ha.all.1 p (look_mem h)).1
  have nc : ∀ p, look z c = some p → p.o ≠ p.n := fun p h => mayC_ne (hc.all.1 p (look_mem h)).1
  have k1 : ∀ p q, look z a = some p → look z b = some q → p.n = q.o ∧ p.t = q.t ∧ p.k = q.k := fun p q hp hq => by
    have := l1 p (look_mem hp)
    have kp := look_key hp
    have kq := look_key hq
    unfold links at this
    rw [look_congr kp, hq] at this
    have kk := keyB_iff.1 (keyB_trans kp (keyB_symm kq))
    exact ⟨of_decide_eq_true this, kk⟩
  have k2 : ∀ p q, look z b = some p → look z c = some q → p.n = q.o ∧ p.t = q.t ∧ p.k = q.k := fun p q hp hq => by
    have := l2 p (look_mem hp)
    have kp := look_key hp
    have kq := look_key hq
    unfold links at this
    rw [look_congr kp, hq] at this
    have kk := keyB_iff.1 (keyB_trans kp (keyB_symm kq))
    exact ⟨of_decide_eq_true this, kk⟩
  cases ea : look z a with
  | none =>
    cases eb : look z b with
    | none => cases ec : look z c <;> rfl
    | some q => cases ec : look z c with
      | none => rfl
      | some r => simp only [both]
  | some p =>
    have hp := na p ea
    cases eb : look z b with
    | none => cases ec : look z c <;> rfl
    | some q =>
      obtain ⟨pq, pt, pk⟩ := k1 p q ea eb
      cases ec : look z c with
      | none =>
        by_cases c1 : p.o = q.n
        · simp [both, c1]
        · simp [both, c1]
      | some r =>
        have hr := nc r ec
        obtain ⟨qr, qt, qk⟩ := k2 q r eb ec
        simp only [both]
        by_cases c1 : p.o = q.n
        · rw [if_pos c1]
          by_cases c2 : q.o = r.n
          · rw [if_pos c2]
            have e : r = p := by
              obtain ⟨rt, rk, ro, rn⟩ := r
              obtain ⟨pt', pk', po, pn⟩ := p
              simp only at *
              subst c1 c2 pq qr pt pk qt qk
              rfl
            rw [e]
          · rw [if_neg c2]
            simp only
            have hpr : ¬ p.o = r.n := fun e => hr (by rw [← qr, ← c1, e])
            rw [if_neg hpr]
            congr 1
            obtain ⟨rt, rk, ro, rn⟩ := r
            simp only at *
            rw [pt, pk, c1, qr, qt, qk]
        · rw [if_neg c1]
          simp only
          by_cases c2 : q.o = r.n
          · rw [if_pos c2]
            have hpr : ¬ p.o = r.n := fun e => hp (by rw [pq, c2, ← e])
            rw [if_neg hpr]
            congr 1
            obtain ⟨pt', pk', po, pn⟩ := p
            simp only at *
            rw [pq, c2]
          · rw [if_neg c2]

/-! ### Contraries -/
theorem look_inv (z : Chg) (l : List Chg) : look z (l.map invC) = (look z l).map invC := look_map_key (f := invC) (fun _ => ⟨rfl, rfl⟩) z l
theorem sorted_inv : ∀ {l : List Chg}, sorted l → sorted (l.map invC)
  | [], _ => trivial
  | x :: r, h => ⟨fun y hy => by obtain ⟨z, hz, rfl⟩ := List.mem_map.1 hy; exact h.1 z hz, sorted_inv h.2⟩
theorem mayC_parts {x : Chg} : mayC x = true ↔ 1 ≤ x.t.length ∧ x.t.length ≤ 32 ∧ 1 ≤ x.k.length ∧ x.o ≠ x.n ∧ rowB x.k = true ∧ rowB x.o = true ∧ rowB x.n = true := by
  simp [mayC, and_assoc]
theorem mayC_inv {x : Chg} (h : mayC x = true) : mayC (invC x) = true := by
  rw [mayC_parts] at h ⊢
  obtain ⟨h1, h2, h3, h4, h5, h6, h7⟩ := h
  exact ⟨h1, h2, h3, fun e => h4 e.symm, h5, h7, h6⟩
theorem set_inv' {l : List Chg} (h : Set' l) : Set' (l.map invC) := by
  refine set_of (fun c hc => ?_) (fun c hc => ?_) (sorted_inv h.all.2) (by rw [List.length_map]; exact h.len)
  · obtain ⟨x, hx, rfl⟩ := List.mem_map.1 hc
    exact mayC_inv (h.all.1 x hx).1
  · obtain ⟨x, hx, rfl⟩ := List.mem_map.1 hc
    have := h.wf x hx
    exact ⟨this.1, this.2.2, this.2.1⟩
theorem inv_inv' (l : List Chg) : (l.map invC).map invC = l := by
  rw [List.map_map]
  conv => rhs; rw [← List.map_id l]
  apply List.map_congr_left
  intro x _; rfl
theorem invert_law {l : List Chg} (h : Set' l) : invertC l = (l.map invC, 0) ∧ invertC (l.map invC) = (l, 0) := by
  refine ⟨by unfold invertC; rw [h.may]; rfl, ?_⟩
  unfold invertC
  rw [(set_inv' h).may, inv_inv']; rfl
theorem contrary_law {l : List Chg} (h : Set' l) : concatC l (l.map invC) = ([], 0) := by
  have hm := set_inv' h
  have e : cat l (l.map invC) = [] := by
    refine set_empty (nokey_cat h.nk hm.nk) fun z => ?_
    rw [look_cat h hm, look_inv]
    cases look z l with
    | none => rfl
    | some x => simp [both, invC]
  rw [concat_of h hm (fun x hx => ?_) (by rw [e]; decide), e]
  unfold links
  rw [look_inv, look_self h.nk hx]
  exact decide_eq_true rfl
theorem contrary_law2 {l : List Chg} (h : Set' l) : concatC (l.map invC) l = ([], 0) := by
  have := contrary_law (set_inv' h)
  rwa [inv_inv'] at this
theorem none_law {l : List Chg} (h : Set' l) : concatC l [] = (l, 0) ∧ concatC [] l = (l, 0) := by
  have e1 : ∀ hl : (cat l []).length ≤ 1000, cat l [] = l := fun hl => set_ext (cat_set h set_nil hl) h fun z => by
    rw [look_cat h set_nil, look_nil]; cases look z l <;> rfl
  have e2 : ∀ hl : (cat [] l).length ≤ 1000, cat [] l = l := fun hl => set_ext (cat_set set_nil h hl) h fun z => by
    rw [look_cat set_nil h, look_nil]; rfl
  have l1 : (cat l []).length ≤ 1000 := Nat.le_trans cat_len (by simpa using h.len)
  have l2 : (cat [] l).length ≤ 1000 := Nat.le_trans cat_len (by simpa using h.len)
  refine ⟨?_, ?_⟩
  · rw [concat_of h set_nil (fun x _ => rfl) l1, e1 l1]
  · rw [concat_of set_nil h (by simp) l2, e2 l2]
theorem set_one {l : List Chg} (h : Set' l) {x : Chg} (hx : x ∈ l) : Set' [x] := set_of (fun c hc => by rw [List.mem_singleton.1 hc]; exact (h.all.1 x hx).1) (fun c hc => by rw [List.mem_singleton.1 hc]; exact h.wf x hx) ⟨by simp, trivial⟩ (by simp)
theorem merge_self {l : List Chg} (h : Set' l) : mergeC l = (l, 0) := by
  unfold mergeC
  rw [mFold_self (l := l) (a := []) (by simpa using h.nk)]
  simp only [List.nil_append]
  have hl : live l = l := by
    unfold live; rw [List.filter_eq_self]
    intro x hx
    have := mayC_ne (h.all.1 x hx).1
    simp [this]
  have hs : Srt.isort cmpC l = l := (isort_uniq (srtB_of h.all.2) (.refl _) (distB_nokey (fun c hc => (h.all.1 c hc).2) h.nk)).symm
  rw [hl, hs, h.may]; rfl
theorem concat_bad {a b : List Chg} (h : mayL a = false ∨ mayL b = false) : concatC a b = ([], 2) := by
  unfold concatC
  rcases h with h | h <;> simp [h]
theorem merge_concat {a b : List Chg} (ha : mayL a = true) (hb : mayL b = true) : concatC a b = mergeC (a ++ b) := by unfold concatC; rw [ha, hb]; rfl

/-! ### One upon the other, either way -/
theorem look_filterMap {g : Chg → Option Chg} (hg : ∀ x y, g x = some y → y.t = x.t ∧ y.k = x.k) (z : Chg) : ∀ {l : List Chg}, nokey l → look z (l.filterMap g) = match look z l with | some x => g x | none => none
  | [], _ => rfl
  | x :: r, hn => by
    rw [List.filterMap_cons, look_cons]
    have ih := look_filterMap hg z hn.2
    have hnot : keyB x z = true → look z r = none := fun hk => look_none.2 fun w hw => by
      cases e : keyB w z with
      | false => rfl
      | true => have := hn.1 w hw; rw [keyB_trans hk (keyB_symm e)] at this; cases this
    cases hx : g x with
    | none =>
      by_cases hk : keyB x z = true
      · rw [if_pos hk]; simp only [hx]
        rw [ih, hnot hk]
      · rw [if_neg hk]; exact ih
    | some y =>
      obtain ⟨e1, e2⟩ := hg x y hx
      have hky : keyB y z = keyB x z := by simp only [keyB, e1, e2]
      simp only
      rw [look_cons, hky]
      by_cases hk : keyB x z = true
      · rw [if_pos hk, if_pos hk]; simp only [hx]
      · rw [if_neg hk, if_neg hk]; exact ih
theorem sorted_filterMap {g : Chg → Option Chg} (hg : ∀ x y, g x = some y → y.t = x.t ∧ y.k = x.k) : ∀ {l : List Chg}, sorted l → sorted (l.filterMap g)
  | [], _ => trivial
  | x :: r, h => by
    rw [List.filterMap_cons]
    cases hx : g x with
    | none => exact sorted_filterMap hg h.2
    | some y =>
      obtain ⟨e1, e2⟩ := hg x y hx
      refine ⟨fun w hw => ?_, sorted_filterMap hg h.2⟩
      obtain ⟨u, hu, huw⟩ := List.mem_filterMap.1 hw
      obtain ⟨f1, f2⟩ := hg u w huw
      have := h.1 u hu
      unfold cmpC at this ⊢
      rw [e1, e2, f1, f2]; exact this
def uponL (win : Bool) (ours th : List Chg) : List Chg := ours.filterMap fun x => upF win (x, look x th)
theorem upF_key {win : Bool} {th : List Chg} : ∀ x y : Chg, upF win (x, look x th) = some y → y.t = x.t ∧ y.k = x.k := by
  intro x y h
  cases hl : look x th with
  | none => rw [hl] at h; simp only [upF, Option.some.injEq] at h; rw [← h]; exact ⟨rfl, rfl⟩
  | some w =>
    rw [hl] at h
    simp only [upF] at h
    split at h
    · injection h with h; rw [← h]; exact ⟨rfl, rfl⟩
    · cases h
theorem set_upon {win : Bool} {ours th : List Chg} (ho : Set' ours) (ht : Set' th) : Set' (uponL win ours th) := by
  have hm : ∀ c ∈ uponL win ours th, mayC c = true ∧ c.wf := by
    intro c hc
    obtain ⟨x, hx, hxc⟩ := List.mem_filterMap.1 hc
    have mx := (ho.all.1 x hx).1
    have wx := ho.wf x hx
    cases hl : look x th with
    | none => rw [hl] at hxc; simp only [upF, Option.some.injEq] at hxc; rw [← hxc]; exact ⟨mx, wx⟩
    | some y =>
      have my := (ht.all.1 y (look_mem hl)).1
      have wy := ht.wf y (look_mem hl)
      rw [hl] at hxc
      simp only [upF] at hxc
      split at hxc
      · rename_i hc
        injection hxc with hxc
        rw [← hxc]
        simp only [mayC, Bool.and_eq_true, Bool.not_eq_true', decide_eq_false_iff_not] at mx my ⊢
        exact ⟨⟨⟨⟨⟨mx.1.1.1.1, fun e => hc.2 e.symm⟩, mx.1.1.2⟩, my.2⟩, mx.2⟩, wx.1, wy.2.2, wx.2.2⟩
      · cases hxc
  refine set_of (fun c hc => (hm c hc).1) (fun c hc => (hm c hc).2) (sorted_filterMap upF_key ho.all.2) ?_
  exact Nat.le_trans (List.length_filterMap_le ..) ho.len
theorem look_upon {win : Bool} {ours th : List Chg} (ho : Set' ours) (z : Chg) : look z (uponL win ours th) = match look z ours with | some x => upF win (x, look z th) | none => none := by
  unfold uponL
  rw [look_filterMap upF_key z ho.nk]
  cases h : look z ours with
  | none => rfl
  | some x => simp only; rw [look_congr (look_key h)]
/-- The same old row on both sides: whoever is to win, both ways come to the same. -/
theorem both_law {win : Bool} {ours th : List Chg} (ho : Set' ours) (ht : Set' th) (hf : ∀ x ∈ ours, fits th x = true) (hl : ours.length + th.length ≤ 500) :
    ∃ s, concatC th (uponL win ours th) = (s, 0) ∧ concatC ours (uponL (!win) th ours) = (s, 0) := by
  have ha := set_upon (win := win) ho ht
  have hb := set_upon (win := !win) ht ho
  have la : (uponL win ours th).length ≤ ours.length := List.length_filterMap_le ..
  have lb : (uponL (!win) th ours).length ≤ th.length := List.length_filterMap_le ..
  have l1 : (cat th (uponL win ours th)).length ≤ 1000 := Nat.le_trans cat_len (by omega)
  have l2 : (cat ours (uponL (!win) th ours)).length ≤ 1000 := Nat.le_trans cat_len (by omega)
  have hfe : ∀ z x y, look z ours = some x → look z th = some y → x.o = y.o ∧ x.t = y.t ∧ x.k = y.k := fun z x y hx hy => by
    have := hf x (look_mem hx)
    have kk := keyB_iff.1 (keyB_trans (look_key hx) (keyB_symm (look_key hy)))
    unfold fits at this
    rw [look_atC, look_congr (look_key hx), hy] at this
    exact ⟨of_decide_eq_true this, kk⟩
  have k1 : ∀ x ∈ th, links (uponL win ours th) x = true := fun y hy => by
    unfold links
    rw [look_upon ho]
    cases h : look y ours with
    | none => rfl
    | some x =>
      simp only
      rw [look_self ht.nk hy]
      simp only [upF]
      split
      · rfl
      · rename_i z hz
        split at hz
        · injection hz with hz; rw [← hz]; exact decide_eq_true rfl
        · cases hz
  have k2 : ∀ x ∈ ours, links (uponL (!win) th ours) x = true := fun x hx => by
    unfold links
    rw [look_upon ht]
    cases h : look x th with
    | none => rfl
    | some y =>
      simp only
      rw [look_self ho.nk hx]
      simp only [upF]
      split
      · rfl
      · rename_i z hz
        split at hz
        · injection hz with hz; rw [← hz]; exact decide_eq_true rfl
        · cases hz
  have e : cat th (uponL win ours th) = cat ours (uponL (!win) th ours) := by
    refine set_ext (cat_set ht ha l1) (cat_set ho hb l2) fun z => ?_
    rw [look_cat ht ha, look_cat ho hb, look_upon ho, look_upon ht]
    cases h1 : look z ours with
    | none =>
      cases h2 : look z th with
      | none => rfl
      | some y => rfl
    | some x =>
      have hx := mayC_ne (ho.all.1 x (look_mem h1)).1
      cases h2 : look z th with
      | none => rfl
      | some y =>
        have hy := mayC_ne (ht.all.1 y (look_mem h2)).1
        obtain ⟨e1, e2, e3⟩ := hfe z x y h1 h2
        simp only [upF]
        obtain ⟨xt, xk, xo, xn⟩ := x
        obtain ⟨yt, yk, yo, yn⟩ := y
        simp only at *
        subst e1 e2 e3
        cases win with
        | true =>
          by_cases hn : xn = yn
          · subst hn; simp [both]
          · simp [both, hn, hx]
        | false =>
          by_cases hn : yn = xn
          · subst hn; simp [both]
          · simp [both, hn, hy]
  exact ⟨_, concat_of ht ha k1 l1, by rw [e]; exact concat_of ho hb k2 l2⟩
theorem fits_symm {ours th : List Chg} (ho : Set' ours) (ht : Set' th) : (∀ x ∈ ours, fits th x = true) → ∀ y ∈ th, fits ours y = true := by
  intro h y hy
  unfold fits
  rw [look_atC]
  cases hl : look y ours with
  | none => rfl
  | some x =>
    have := h x (look_mem hl)
    unfold fits at this
    rw [look_atC, look_congr (look_key hl), look_self ht.nk hy] at this
    have e := of_decide_eq_true this
    exact decide_eq_true e.symm
theorem refE_symm {ours th : List Chg} (wo : ∀ c ∈ ours, c.wf) (wt : ∀ c ∈ th, c.wf) : refE ours th = refE th ours := by
  unfold refE
  rw [Bool.and_comm (mayL th)]
  by_cases h : (mayL ours && mayL th) = true
  · rw [if_pos h, if_pos h]
    simp only [Bool.and_eq_true] at h
    have ho : Set' ours := ⟨h.1, wo⟩
    have ht : Set' th := ⟨h.2, wt⟩
    have : ours.all (fits th) = th.all (fits ours) := by
      apply Bool.eq_iff_iff.2
      simp only [List.all_eq_true]
      exact ⟨fits_symm ho ht, fits_symm ht ho⟩
    rw [this]
  · rw [if_neg h, if_neg h]
theorem upon_self {win : Bool} {l : List Chg} (h : Set' l) : meetQ (upF win) l [] = (l, 0) ∧ meetQ (upF win) l l = ([], 0) ∧ meetQ (upF win) [] l = ([], 0) := by
  have e0 : mayL [] = true := rfl
  refine ⟨?_, ?_, ?_⟩
  · have hr : refE l [] = 0 := by
      unfold refE; rw [h.may, e0]
      have : l.all (fits []) = true := List.all_eq_true.2 fun x _ => rfl
      simp [this]
    unfold meetQ
    rw [if_pos hr]
    congr 1
    have : (fun x : Chg => upF win (x, atC x [])) = some := by funext x; rfl
    rw [this, List.filterMap_some]
  · have hr : refE l l = 0 := by
      unfold refE; rw [h.may]
      have : l.all (fits l) = true := List.all_eq_true.2 fun x hx => by unfold fits; rw [look_atC, look_self h.nk hx]; exact decide_eq_true rfl
      simp [this]
    unfold meetQ
    rw [if_pos hr]
    congr 1
    rw [List.filterMap_eq_nil_iff]
    intro x hx
    rw [look_atC, look_self h.nk hx]
    simp [upF]
  · have hr : refE [] l = 0 := by unfold refE; rw [h.may, e0]; rfl
    unfold meetQ
    rw [if_pos hr]; rfl
end Go.Proofs.Ytljfolepmkcjlaa.Plain

/-
  What the laws compare answers with: is, not, and their closures.
-/
namespace Go.Am
variable {P : Program}
/-- less said of the arguments -/
theorem C.args_le {f : FuncId} {args args' : List RV} {objs : List PObj} {Q : RV → List PObj → Prop} (hl : args.length = args'.length) (h : ∀ (i : Nat) (x y : RV), args[i]? = some x → args'[i]? = some y → RVle x y) (hC : C P f args' objs Q) : C P f args objs Q := by
  intro κ φ w vs h1 h2 h3 h4
  refine hC κ φ w vs h1 h2 (h3.trans hl) fun i y v hy hv => ?_
  have hi : i < args'.length := (List.getElem?_eq_some_iff.1 hy).1
  have hx : args[i]? = some args[i] := List.getElem?_eq_getElem (by omega)
  exact h i _ y hx hy κ φ _ _ v (h4 i _ v hx hv)
end Go.Am
namespace Go.Proofs.Ytljfolepmkcjlaa
open Go.RowKit Plain Am IntWalk
set_option maxRecDepth 100000
set_option linter.unusedVariables false
set_option linter.unusedSimpArgs false

abbrev lT : Nat := 22
abbrev eT : Nat := 25
def isE (g : Nat) : Ent := fun a o => match a, o with
  | [.d (.lst 0 [] true)], [] => some (.clo (.func g) [] [.ptr 0 0], [.box lT [.d (.lst 4 [] false)]], [])
  | [.d (.lst 4 els false)], [] => some (.clo (.func g) [] [.ptr 0 0], [.box lT [.d (.lst 4 els false)]], [])
  | _, _ => none
def is1E : Ent := fun a o => match a, o with
  | [.d l, .d (.int .i64 e), .ptr 0 0], [.box T [.d w]] => some (.d (.bool (decide (e = 0) && decide (unL l = unL w))), [.box T [.d w]], [Nat.beq T lT, isL l, isL w])
  | _, _ => none
def notE : Ent := fun a o => match a, o with
  | [.d (.int .i64 e)], [] => some (.clo (.func 57) [] [.ptr 0 0], [.box eT [.d (.int .i64 e)]], [])
  | _, _ => none
def not1E : Ent := fun a o => match a, o with
  | [.d (.lst 4 els false), .d (.int .i64 e), .ptr 0 0], [.box T [.d (.int .i64 w)]] => some (.d (.bool (decide (e = w) && decide (els.length = 0))), [.box T [.d (.int .i64 w)]], [Nat.beq T eT])
  | _, _ => none
def cnE : Ent := fun a o => match a, o with
  | [.d x, .d y], [] => some (.tup [.d (chL (concatC (unL x) (unL y)).1), .d (.int .i64 (concatC (unL x) (unL y)).2)], [], [isL x, isL y])
  | _, _ => none
noncomputable def tsm : List (Nat × Ent) := [(16, e2 smG)]
theorem tsm_ok : EntsOk Try.prog tsm := .cons sa_ent .nil
theorem is_c (els : List DV) : C Try.prog 25 [.d (.lst 4 els false)] [] (fun r o => r = .clo (.func 51) [] [.ptr 0 0] ∧ o = [.box lT [.d (.lst 4 els false)]]) := by
  have ok := cfT_ok (l := []) .nil
  refine C_of_run (fn := Try.f25) (body := bodyOf Try.f25) false (by kernel_rfl) (by kernel_rfl) (by kernel_rfl) ?_
  exact WK.fin ok 1000 0 [] [] [] rfl (by kernel_rfl : runEnd (cfT []) false _ 1000 0 _ _ (ini 4 [.d (.lst 4 els false)] []) = some (.clo (.func 51) [] [.ptr 0 0], [.box lT [.d (.lst 4 els false)]], _, _)) trivial trivial ⟨rfl, rfl⟩
theorem isE_ok {f g : Nat} (h : ∀ els : List DV, C Try.prog f [.d (.lst 4 els false)] [] (fun r o => r = .clo (.func g) [] [.ptr 0 0] ∧ o = [.box lT [.d (.lst 4 els false)]])) : EntOk Try.prog f (isE g) := by
  intro a o r o' c hg hc
  unfold isE at hg
  split at hg
  · simp only [Option.some.injEq, Prod.mk.injEq] at hg
    obtain ⟨rfl, rfl, rfl⟩ := hg
    refine C.args_le (args' := [.d (.lst 4 [] false)]) rfl (fun i x y hx hy => ?_) (h [])
    match i, hx, hy with
    | 0, hx, hy => simp at hx hy; subst hx hy; exact nil_leM
    | i + 1, hx, _ => simp at hx
  · rename_i els
    simp only [Option.some.injEq, Prod.mk.injEq] at hg
    obtain ⟨rfl, rfl, rfl⟩ := hg
    exact h els
  · cases hg
theorem is_ent : EntOk Try.prog 25 (isE 51) := isE_ok is_c
theorem is1_c (l w : List Chg) (hl : okL l) (hw : okL w) (e : Int) : C Try.prog 51 [.d (chL l), .d (.int .i64 e), .ptr 0 0] [.box lT [.d (chL w)]] (fun r o => r = .d (.bool (decide (e = 0) && decide (l = w))) ∧ o = [.box lT [.d (chL w)]]) := by
  have ok := cfT_ok tsm_ok
  refine C_of_run (fn := Try.f51) (body := bodyOf Try.f51) false (by kernel_rfl) (by kernel_rfl) (by kernel_rfl) ?_
  by_cases h : e = 0
  · exact WK.fin ok 1000 0 [(8, .d (.bool true))] [isL (chL l), isL (chL w)] [(.d (.bool (e == 0)), .d (.bool true))] rfl (by kernel_rfl : runEnd (cfT tsm) false _ 1000 0 _ _ (ini 13 [.d (chL l), .d (.int .i64 e), .ptr 0 0] [.box lT [.d (chL w)]]) = some (.d (.bool (decide (unL (chL l) = unL (chL w)))), [.box lT [.d (chL w)]], _, _)) ⟨isL_chL hl, isL_chL hw, trivial⟩ ⟨le_bool (by simpa using h), trivial⟩ ⟨by rw [unL_chL, unL_chL, decide_eq_true h]; rfl, rfl⟩
  · exact WK.fin ok 1000 0 [(8, .d (.bool false))] [] [(.d (.bool (e == 0)), .d (.bool false))] rfl (by kernel_rfl : runEnd (cfT tsm) false _ 1000 0 _ _ (ini 13 [.d (chL l), .d (.int .i64 e), .ptr 0 0] [.box lT [.d (chL w)]]) = some (.d (.bool false), [.box lT [.d (chL w)]], _, _)) trivial ⟨le_bool (by simpa using h), trivial⟩ ⟨by rw [decide_eq_false h]; rfl, rfl⟩
theorem is1E_ok {f : Nat} (h : ∀ (l w : List Chg), okL l → okL w → ∀ e : Int, C Try.prog f [.d (chL l), .d (.int .i64 e), .ptr 0 0] [.box lT [.d (chL w)]] (fun r o => r = .d (.bool (decide (e = 0) && decide (l = w))) ∧ o = [.box lT [.d (chL w)]])) : EntOk Try.prog f is1E := by
  intro a o r o' c hg hc
  unfold is1E at hg
  split at hg
  · rename_i l e T w
    simp only [Option.some.injEq, Prod.mk.injEq] at hg
    obtain ⟨rfl, rfl, rfl⟩ := hg
    have hT := nbE (hc (Nat.beq T lT) (by simp))
    subst hT
    obtain ⟨L, rfl, hL⟩ := isL_spec (hc (isL l) (by simp))
    obtain ⟨W, rfl, hW⟩ := isL_spec (hc (isL w) (by simp))
    rw [unL_chL, unL_chL]
    exact h L W hL hW e
  · cases hg
theorem is1_ent : EntOk Try.prog 51 is1E := is1E_ok is1_c
theorem not_ent : EntOk Try.prog 29 notE := by
  have ok := cfT_ok (l := []) .nil
  intro a o r o' c hg hc
  unfold notE at hg
  split at hg
  · rename_i e
    simp only [Option.some.injEq, Prod.mk.injEq] at hg
    obtain ⟨rfl, rfl, rfl⟩ := hg
    refine C_of_run (fn := Try.f29) (body := bodyOf Try.f29) false (by kernel_rfl) (by kernel_rfl) (by kernel_rfl) ?_
    exact WK.fin ok 1000 0 [] [] [] rfl (by kernel_rfl : runEnd (cfT []) false _ 1000 0 _ _ (ini 4 [.d (.int .i64 e)] []) = some (.clo (.func 57) [] [.ptr 0 0], [.box eT [.d (.int .i64 e)]], _, _)) trivial trivial ⟨rfl, rfl⟩
  · cases hg
theorem not1_ent : EntOk Try.prog 57 not1E := by
  have ok := cfT_ok (l := []) .nil
  intro a o r o' c hg hc
  unfold not1E at hg
  split at hg
  · rename_i els e T w
    simp only [Option.some.injEq, Prod.mk.injEq] at hg
    obtain ⟨rfl, rfl, rfl⟩ := hg
    have hT := nbE (hc (Nat.beq T eT) (by simp))
    subst hT
    refine C_of_run (fn := Try.f57) (body := bodyOf Try.f57) false (by kernel_rfl) (by kernel_rfl) (by kernel_rfl) ?_
    by_cases h : e = w
    · exact WK.fin ok 1000 0 [(8, .d (.bool true))] [] [(.d (.bool (e == w)), .d (.bool true))] rfl (by kernel_rfl : runEnd (cfT []) false _ 1000 0 _ _ (ini 14 [.d (.lst 4 els false), .d (.int .i64 e), .ptr 0 0] [.box eT [.d (.int .i64 w)]]) = some (.d (.bool ((els.length : Int) == 0)), [.box eT [.d (.int .i64 w)]], _, _)) trivial ⟨le_bool (by simpa using h), trivial⟩ ⟨by
        rw [decide_eq_true h]
        congr 2
        rw [Bool.true_and, Bool.eq_iff_iff, beq_iff_eq, decide_eq_true_iff]; omega, rfl⟩
    · exact WK.fin ok 1000 0 [(8, .d (.bool false))] [] [(.d (.bool (e == w)), .d (.bool false))] rfl (by kernel_rfl : runEnd (cfT []) false _ 1000 0 _ _ (ini 14 [.d (.lst 4 els false), .d (.int .i64 e), .ptr 0 0] [.box eT [.d (.int .i64 w)]]) = some (.d (.bool false), [.box eT [.d (.int .i64 w)]], _, _)) trivial ⟨le_bool (by simpa using h), trivial⟩ ⟨by rw [decide_eq_false h]; rfl, rfl⟩
  · cases hg
/-- Concat, nil slices among the arguments -/
def cnN : Ent := fun a o => match a, o with
  | [.d x, .d (.lst 0 [] true)], [] => some (.tup [.d (chL (concatC (unL x) []).1), .d (.int .i64 (concatC (unL x) []).2)], [], [isL x])
  | [.d (.lst 0 [] true), .d x], [] => some (.tup [.d (chL (concatC [] (unL x)).1), .d (.int .i64 (concatC [] (unL x)).2)], [], [isL x])
  | [.d x, .d y], [] => some (.tup [.d (chL (concatC (unL x) (unL y)).1), .d (.int .i64 (concatC (unL x) (unL y)).2)], [], [isL x, isL y])
  | _, _ => none
theorem cnN_ent : EntOk Try.prog 19 cnN := by
  intro a o r o' c hg hc
  unfold cnN at hg
  split at hg
  · rename_i x
    simp only [Option.some.injEq, Prod.mk.injEq] at hg
    obtain ⟨rfl, rfl, rfl⟩ := hg
    obtain ⟨A, rfl, hA⟩ := isL_spec (hc (isL x) (by simp))
    rw [unL_chL]
    refine C.args_le (args' := [.d (chL A), .d (chL [])]) rfl (fun i x y hx hy => ?_) (Concat_c A [] hA okL_nil)
    match i, hx, hy with
    | 0, hx, hy => simp at hx hy; subst hx hy; exact .of_eq rfl
    | 1, hx, hy => simp at hx hy; subst hx hy; exact nil_leM
    | i + 2, hx, _ => simp at hx
  · rename_i x _
    simp only [Option.some.injEq, Prod.mk.injEq] at hg
    obtain ⟨rfl, rfl, rfl⟩ := hg
    obtain ⟨A, rfl, hA⟩ := isL_spec (hc (isL x) (by simp))
    rw [unL_chL]
    refine C.args_le (args' := [.d (chL []), .d (chL A)]) rfl (fun i x y hx hy => ?_) (Concat_c [] A okL_nil hA)
    match i, hx, hy with
    | 0, hx, hy => simp at hx hy; subst hx hy; exact nil_leM
    | 1, hx, hy => simp at hx hy; subst hx hy; exact .of_eq rfl
    | i + 2, hx, _ => simp at hx
  · rename_i x y _ _
    simp only [Option.some.injEq, Prod.mk.injEq] at hg
    obtain ⟨rfl, rfl, rfl⟩ := hg
    obtain ⟨A, rfl, hA⟩ := isL_spec (hc (isL x) (by simp))
    obtain ⟨B, rfl, hB⟩ := isL_spec (hc (isL y) (by simp))
    rw [unL_chL, unL_chL]
    exact Concat_c A B hA hB
  · cases hg
/-- Invert -/
def ivE : Ent := fun a o => match a, o with
  | [.d x], [] => some (.tup [.d (chL (invertC (unL x)).1), .d (.int .i64 (invertC (unL x)).2)], [], [isL x])
  | _, _ => none
theorem iv_ent : EntOk Try.prog 28 ivE := by
  intro a o r o' c hg hc
  unfold ivE at hg
  split at hg
  · rename_i x
    simp only [Option.some.injEq, Prod.mk.injEq] at hg
    obtain ⟨rfl, rfl, rfl⟩ := hg
    obtain ⟨A, rfl, hA⟩ := isL_spec (hc (isL x) (by simp))
    rw [unL_chL]
    exact Invert_c A hA
  · cases hg
theorem mergeC_ok {L : List Chg} (h : okL L) : okL (mergeC L).1 := by
  rw [mergeC_of]
  split
  · split
    · exact mrgC_ok h
    · exact okL_nil
  · exact okL_nil
theorem okL_app {a b : List Chg} (ha : okL a) (hb : okL b) (hl : a.length + b.length ≤ 65536) : okL (a ++ b) := ⟨by rw [List.length_append]; omega, fun c hc => by
  rcases List.mem_append.1 hc with hc | hc
  · exact ha.2 c hc
  · exact hb.2 c hc⟩
theorem concatC_ok {a b : List Chg} (ha : okL a) (hb : okL b) (hl : a.length + b.length ≤ 65536) : okL (concatC a b).1 := by
  unfold concatC
  split
  · exact mergeC_ok (okL_app ha hb hl)
  · exact okL_nil
theorem okL_inv {l : List Chg} (h : okL l) : okL (l.map invC) := ⟨by rw [List.length_map]; exact h.1, fun c hc => by
  obtain ⟨x, hx, rfl⟩ := List.mem_map.1 hc
  have := h.2 x hx
  exact ⟨⟨this.1.1, this.1.2.2, this.1.2.1⟩, this.2.1, this.2.2.2, this.2.2.1⟩⟩
theorem works22_ent : EntOk Try.prog 20 (e0 (some (.bool true, []))) := e0_ok fun y c h _ => by simp at h; obtain ⟨rfl, rfl⟩ := h; exact works22_c
theorem cn_ent {f : Nat} (h : ∀ a b : List Chg, okL a → okL b → C Try.prog f [.d (chL a), .d (chL b)] [] (fun r o => r = .tup [.d (chL (concatC a b).1), .d (.int .i64 (concatC a b).2)] ∧ o = [])) : EntOk Try.prog f cnE := by
  intro a o r o' c hg hc
  unfold cnE at hg
  split at hg
  · rename_i x y
    simp only [Option.some.injEq, Prod.mk.injEq] at hg
    obtain ⟨rfl, rfl, rfl⟩ := hg
    obtain ⟨A, rfl, hA⟩ := isL_spec (hc (isL x) (by simp))
    obtain ⟨B, rfl, hB⟩ := isL_spec (hc (isL y) (by simp))
    rw [unL_chL, unL_chL]
    exact h A B hA hB
  · cases hg
theorem ov_G2 {l : List Chg} {b : Bool} (h : great2 l = b) : RVle (.d (.bool (great2 (unL (chL l))))) (.d (.bool b)) := .of_eq (by rw [unL_chL, h])
theorem ov_cn1 {a b s : List Chg} {e : Int} (h : concatC a b = (s, e)) : RVle (.d (chL (concatC (unL (chL a)) (unL (chL b))).1)) (.d (chL s)) := .of_eq (by rw [unL_chL, unL_chL, h])
theorem ov_cn2 {a b s : List Chg} {e : Int} (h : concatC a b = (s, e)) : RVle (.d (.int .i64 (concatC (unL (chL a)) (unL (chL b))).2)) (.d (.int .i64 e)) := .of_eq (by rw [unL_chL, unL_chL, h])
end Go.Proofs.Ytljfolepmkcjlaa

/-
  The law ChangeNone, run.
-/
namespace Go.Proofs.Ytljfolepmkcjlaa
open Go.RowKit Plain Am IntWalk
set_option maxRecDepth 100000
set_option linter.unusedVariables false
set_option linter.unusedSimpArgs false

noncomputable abbrev lnC : Code := bodyOf Try.f9
noncomputable def tn1' : List (Nat × Ent) := [(20, e0 (some (.bool true, []))), (23, e1 grG2), (17, e1 ckG), (19, cnN), (28, ivE), (25, isE 51), (51, is1E), (29, notE), (57, not1E)]
theorem tn1'_ok : EntsOk Try.prog tn1' := .cons works22_ent (.cons g2_ent (.cons ck_ent (.cons cnN_ent (.cons iv_ent (.cons is_ent (.cons is1_ent (.cons not_ent (.cons not1_ent .nil))))))))
def cnS (l : List DV) (m : List DV) (i : Int) : ESt := { n := 96, m := 0, regs := T.mk [(0, .d (.lst 4 l false)), (3, .d (.lst 4 m false)), (74, .d (.lst 4 l false)), (75, .d (.int .i64 (l.length : Int))), (76, .d (.int .i64 i))], objs := T.nil }
abbrev EndsN2 : SSt → Prop := Ends (Try.f9.results.toList) (.d (.bool true))
theorem cutL_one (l : List Chg) {i : Nat} (h : i < l.length) {x : Chg} (hx : l[i] = x) : RVle (.d (.lst 4 (cutL (l.map chD) (some (Nat.cast (R := Int) i)) (some (Nat.cast (R := Int) (i + 1)))) false)) (.d (.lst 4 ([x].map chD) false)) := .of_eq (by
  have e : cutL (l.map chD) (some (Nat.cast (R := Int) i)) (some (Nat.cast (R := Int) (i + 1))) = [x].map chD := by
    show ((l.map chD).take (Int.toNat (Nat.cast (R := Int) (i + 1)))).drop (Int.toNat (Nat.cast (R := Int) i)) = _
    rw [Int.toNat_natCast, Int.toNat_natCast, ← List.map_take, ← List.map_drop, List.take_add_one, List.getElem?_eq_getElem h, hx, List.drop_append, List.drop_of_length_le (by rw [List.length_take]; omega), List.length_take]
    have : i - min i l.length = 0 := by omega
    rw [this]; rfl
  rw [e])
set_option maxHeartbeats 4000000 in
theorem none_c (l : List Chg) (ll : l.length ≤ 9223372036854775807) (wl : ∀ z ∈ l, z.wf) :
    C Try.prog 9 [.d (chL l)] [] (fun r o => r = .d (.bool true) ∧ o = []) := by
  have ok := cfT_ok tn1'_ok
  refine C_of_run (fn := Try.f9) (body := lnC) true (by kernel_rfl) (by kernel_rfl) (by kernel_rfl) ?_
  have ia := isLw_chL ll wl
  cases ga : great2 l with
  | true =>
    have q1 := ov_G2 ga
    exact WK.fin ok 1000 0 [(9, RV.d (DV.bool true)), (10, RV.d (DV.bool true)), (14, RV.d (DV.bool true))] [isLw (DV.lst 4 (List.map chD l) false)] [(RV.d (DV.bool (great2 (unL (chL l)))), RV.d (DV.bool true)), (RV.d (DV.bool true), RV.d (DV.bool true)), (RV.d (DV.bool true), RV.d (DV.bool true))] rfl (by kernel_rfl : runEnd (cfT tn1') true _ 1000 0 _ _ (ini 96 [.d (chL l)] []) = some (RV.d (DV.bool true), [], _, _)) ⟨(by first | rfl | exact ia), trivial⟩ (by refine ⟨?_, ?_, ?_, trivial⟩ <;> (first | exact q1 | exact le_bool rfl)) ⟨rfl, rfl⟩
  | false =>
    have q1 := ov_G2 ga
    have ha := great2_no ga wl
    have ka := isL_chL ha
    have q2 : ∀ v : Bool, decide (100 < l.length) = v → RVle (.d (.bool (decide ((100 : Int) < (Nat.cast (R := Int) (l.map chD).length))))) (.d (.bool v)) := fun v h => le_bool (by
      rw [List.length_map, ← h]
      apply Bool.eq_iff_iff.2; simp only [decide_eq_true_eq]; omega)
    cases h4 : decide (100 < l.length) with
    | true =>
      have q2 := q2 _ h4
      exact WK.fin ok 1000 0 [(9, RV.d (DV.bool false)), (10, RV.d (DV.bool false)), (13, RV.d (DV.bool true)), (14, RV.d (DV.bool true))] [isLw (DV.lst 4 (List.map chD l) false)] [(RV.d (DV.bool (great2 (unL (chL l)))), RV.d (DV.bool false)), (RV.d (DV.bool false), RV.d (DV.bool false)), (RV.d (DV.bool (decide (100 < (Nat.cast (R := Int) (List.map chD l).length)))), RV.d (DV.bool true)), (RV.d (DV.bool true), RV.d (DV.bool true))] rfl (by kernel_rfl : runEnd (cfT tn1') true _ 1000 0 _ _ (ini 96 [.d (chL l)] []) = some (RV.d (DV.bool true), [], _, _)) ⟨(by first | rfl | exact ia), trivial⟩ (by refine ⟨?_, ?_, ?_, ?_, trivial⟩ <;> (first | exact q1 | exact q2 | exact le_bool rfl)) ⟨rfl, rfl⟩
    | false =>
      have q2 := q2 _ h4
      have hle := of_decide_eq_false h4
      cases hm : mayL l with
      | false =>
        have q3 : RVle (.d (.bool ((if mayL (unL (chL l)) = true then (0 : Int) else 2) != 0))) (.d (.bool true)) := le_bool (by rw [unL_chL, hm]; rfl)
        have c1 := concat_bad (a := l) (b := []) (.inl hm)
        have c2 := concat_bad (a := []) (b := l) (.inr hm)
        have c3 : invertC l = ([], 2) := by unfold invertC; rw [hm]; rfl
        have v1 : RVle (.d (chL (concatC (unL (chL l)) []).1)) (.d (.lst 4 [] false)) := .of_eq (by rw [unL_chL, c1]; rfl)
        have v2 : RVle (.d (.int .i64 (concatC (unL (chL l)) []).2)) (.d (.int .i64 2)) := .of_eq (by rw [unL_chL, c1])
        have v3 : RVle (.d (chL (concatC [] (unL (chL l))).1)) (.d (.lst 4 [] false)) := .of_eq (by rw [unL_chL, c2]; rfl)
        have v4 : RVle (.d (.int .i64 (concatC [] (unL (chL l))).2)) (.d (.int .i64 2)) := .of_eq (by rw [unL_chL, c2])
        have v5 : RVle (.d (chL (invertC (unL (chL l))).1)) (.d (.lst 4 [] false)) := .of_eq (by rw [unL_chL, c3]; rfl)
        have v6 : RVle (.d (.int .i64 (invertC (unL (chL l))).2)) (.d (.int .i64 2)) := .of_eq (by rw [unL_chL, c3])
        exact WK.fin ok 1000 0 [(9, RV.d (DV.bool false)), (10, RV.d (DV.bool false)), (13, RV.d (DV.bool false)), (14, RV.d (DV.bool false)), (17, RV.d (DV.bool true)), (21, RV.d (DV.lst 4 [] false)), (22, RV.d (DV.int Go.IntKind.i64 (2))), (23, RV.d (DV.bool true)), (24, RV.d (DV.bool true)), (28, RV.d (DV.lst 4 [] false)), (29, RV.d (DV.int Go.IntKind.i64 (2))), (30, RV.d (DV.bool true)), (31, RV.d (DV.bool true)), (32, RV.d (DV.bool true)), (36, RV.d (DV.lst 4 [] false)), (37, RV.d (DV.int Go.IntKind.i64 (2))), (38, RV.d (DV.bool true)), (39, RV.d (DV.bool true))] [isLw (DV.lst 4 (List.map chD l) false), isL (DV.lst 4 (List.map chD l) false), isL (DV.lst 4 (List.map chD l) false), true, isL (DV.lst 4 (List.map chD l) false), true, isL (DV.lst 4 (List.map chD l) false), true] [(RV.d (DV.bool (great2 (unL (chL l)))), RV.d (DV.bool false)), (RV.d (DV.bool false), RV.d (DV.bool false)), (RV.d (DV.bool (decide (100 < (Nat.cast (R := Int) (List.map chD l).length)))), RV.d (DV.bool false)), (RV.d (DV.bool false), RV.d (DV.bool false)), (RV.d (DV.bool ((if Plain.mayL (unL (chL l)) = true then (0 : Int) else 2) != 0)), RV.d (DV.bool true)), (RV.d (DV.lst 4 (List.map chD (Plain.concatC (unL (chL l)) []).1) false), RV.d (DV.lst 4 [] false)), (RV.d (DV.int Go.IntKind.i64 (Plain.concatC (unL (chL l)) []).2), RV.d (DV.int Go.IntKind.i64 (2))), (RV.d (DV.bool true), RV.d (DV.bool true)), (RV.d (DV.bool true), RV.d (DV.bool true)), (RV.d (DV.lst 4 (List.map chD (Plain.concatC [] (unL (DV.lst (4) (List.map chD l) false))).1) false), RV.d (DV.lst 4 [] false)), (RV.d (DV.int Go.IntKind.i64 (Plain.concatC [] (unL (DV.lst (4) (List.map chD l) false))).2), RV.d (DV.int Go.IntKind.i64 (2))), (RV.d (DV.bool true), RV.d (DV.bool true)), (RV.d (DV.bool true), RV.d (DV.bool true)), (RV.d (DV.bool true), RV.d (DV.bool true)), (RV.d (DV.lst 4 (List.map chD (Plain.invertC (unL (chL l))).1) false), RV.d (DV.lst 4 [] false)), (RV.d (DV.int Go.IntKind.i64 (Plain.invertC (unL (chL l))).2), RV.d (DV.int Go.IntKind.i64 (2))), (RV.d (DV.bool true), RV.d (DV.bool true)), (RV.d (DV.bool true), RV.d (DV.bool true))] rfl (by kernel_rfl : runEnd (cfT tn1') true _ 1000 0 _ _ (ini 96 [.d (chL l)] []) = some (RV.d (DV.bool true), [], _, _)) (by refine ⟨?_, ?_, ?_, ?_, ?_, ?_, ?_, ?_, trivial⟩ <;> (first | rfl | exact ia | exact ka)) (by refine ⟨?_, ?_, ?_, ?_, ?_, ?_, ?_, ?_, ?_, ?_, ?_, ?_, ?_, ?_, ?_, ?_, ?_, ?_, trivial⟩ <;> (first | exact q1 | exact q2 | exact q3 | exact v1 | exact v2 | exact v3 | exact v4 | exact v5 | exact v6 | exact le_bool rfl)) ⟨rfl, rfl⟩
      | true =>
        have hs : Set' l := ⟨hm, wl⟩
        have q3 : RVle (.d (.bool ((if mayL (unL (chL l)) = true then (0 : Int) else 2) != 0))) (.d (.bool false)) := le_bool (by rw [unL_chL, hm]; rfl)
        obtain ⟨c1, c2⟩ := none_law hs
        have c3 := (invert_law hs).1
        obtain ⟨m, em⟩ : ∃ m, l.map invC = m := ⟨_, rfl⟩
        rw [em] at c3
        have hml : m.length = l.length := by rw [← em, List.length_map]
        have v1 : RVle (.d (chL (concatC (unL (chL l)) []).1)) (.d (chL l)) := .of_eq (by rw [unL_chL, c1])
        have v2 : RVle (.d (.int .i64 (concatC (unL (chL l)) []).2)) (.d (.int .i64 0)) := .of_eq (by rw [unL_chL, c1])
        have v3 : RVle (.d (chL (concatC [] (unL (chL l))).1)) (.d (chL l)) := .of_eq (by rw [unL_chL, c2])
        have v4 : RVle (.d (.int .i64 (concatC [] (unL (chL l))).2)) (.d (.int .i64 0)) := .of_eq (by rw [unL_chL, c2])
        have v5 : RVle (.d (chL (invertC (unL (chL l))).1)) (.d (chL m)) := .of_eq (by rw [unL_chL, c3])
        have v6 : RVle (.d (.int .i64 (invertC (unL (chL l))).2)) (.d (.int .i64 0)) := .of_eq (by rw [unL_chL, c3])
        have v7 : RVle (.d (.bool ((Nat.cast (R := Int) (m.map chD).length) != (Nat.cast (R := Int) (l.map chD).length)))) (.d (.bool false)) := le_bool (by rw [List.length_map, List.length_map, hml]; simp)
        have v8 : RVle (.d (.bool (true && decide (unL (chL l) = unL (.lst 4 (l.map chD) false))))) (.d (.bool true)) := le_bool (by show (true && decide (unL (chL l) = unL (chL l))) = true; simp)
        have hloop : WK Try.prog 0 (stackAt lnC 0) (cnS (l.map chD) (m.map chD) 0).den EndsN2 := by
          refine WK.rec' (fun (q : Nat) => cnS (l.map chD) (m.map chD) (q : Int)) (fun q => q ≤ l.length) (fun q => l.length - q) ?_ 0 (Nat.zero_le _)
          intro i hi ih
          by_cases hlt : i < l.length
          · obtain ⟨x, hx⟩ : ∃ x, l[i] = x := ⟨_, rfl⟩
            have hxm : x ∈ l := by rw [← hx]; exact List.getElem_mem _
            have h1 := set_one hs hxm
            have h2 := contrary_law h1
            obtain ⟨y, hy⟩ : ∃ y, invC x = y := ⟨_, rfl⟩
            have h2' : concatC [x] [y] = ([], 0) := by rw [← hy]; exact h2
            have hmi : m[i]'(by omega) = y := by subst em; rw [List.getElem_map, hx, hy]
            have oy : okL [y] := by
              have := okL_inv (l := [x]) ⟨by simp, fun c hc => ha.2 c (by rw [List.mem_singleton.1 hc]; exact hxm)⟩
              rw [← hy]; exact this
            have kx : isL (chL [x]) = true := isL_chL ⟨by simp, fun c hc => ha.2 c (by rw [List.mem_singleton.1 hc]; exact hxm)⟩
            have ky : isL (chL [y]) = true := isL_chL oy
            have w1 := cutL_one l hlt hx
            have w2 := cutL_one m (by omega) hmi
            have w3 : RVle (.d (chL (concatC (unL (chL [x])) (unL (chL [y]))).1)) (.d (.lst 4 [] false)) := .of_eq (by rw [unL_chL, unL_chL, h2']; rfl)
            have w4 : RVle (.d (.int .i64 (concatC (unL (chL [x])) (unL (chL [y]))).2)) (.d (.int .i64 0)) := .of_eq (by rw [unL_chL, unL_chL, h2'])
            have w5 : decide ((Nat.cast (R := Int) i) < (Nat.cast (R := Int) (l.map chD).length)) = true := decide_eq_true (by rw [List.length_map]; omega)
            have w6 := ov_succ (i := i) (by omega)
            have k1 : decide ((0 : Int) ≤ (Nat.cast (R := Int) (i + 1)) ∧ (Nat.cast (R := Int) (i + 1)) ≤ (Nat.cast (R := Int) (l.map chD).length)) = true := decide_eq_true (by rw [List.length_map]; omega)
            have k2 : decide ((0 : Int) ≤ (Nat.cast (R := Int) i) ∧ (Nat.cast (R := Int) i) ≤ (Nat.cast (R := Int) (Int.toNat (Nat.cast (R := Int) (i + 1))))) = true := decide_eq_true (by rw [Int.toNat_natCast]; omega)
            have k3 : decide ((0 : Int) ≤ (Nat.cast (R := Int) (i + 1)) ∧ (Nat.cast (R := Int) (i + 1)) ≤ (Nat.cast (R := Int) (m.map chD).length)) = true := decide_eq_true (by rw [List.length_map, hml]; omega)
            have hw := ih (i + 1) hlt (by omega)
            obtain ⟨p, hp⟩ : ∃ p, l.map chD = p := ⟨_, rfl⟩
            obtain ⟨q, hq⟩ : ∃ q, m.map chD = q := ⟨_, rfl⟩
            rw [hp] at w1 w5 k1
            rw [hq] at w2 k3
            rw [hp, hq] at hw ⊢
            clear ih
            refine WK.segA ok 1000 0 [(77, RV.d (DV.bool true)), (83, RV.d (DV.int Go.IntKind.i64 (Nat.cast (R := Int) (i + 1)))), (84, RV.d (DV.lst 4 (List.map chD [x]) false)), (88, RV.d (DV.int Go.IntKind.i64 (Nat.cast (R := Int) (i + 1)))), (89, RV.d (DV.lst 4 (List.map chD [y]) false)), (91, RV.d (DV.lst 4 [] false)), (92, RV.d (DV.int Go.IntKind.i64 (0))), (93, RV.d (DV.bool true)), (94, RV.d (DV.bool false)), (95, RV.d (DV.int Go.IntKind.i64 (Nat.cast (R := Int) (i + 1))))] [] [0, 3, 74, 75, 76] [decide (0 ≤ (Nat.cast (R := Int) (i + 1)) ∧ (Nat.cast (R := Int) (i + 1)) ≤ (Nat.cast (R := Int) p.length)), decide (0 ≤ (Nat.cast (R := Int) i) ∧ (Nat.cast (R := Int) i) ≤ (Nat.cast (R := Int) (Nat.cast (R := Int) (i + 1)).toNat)), decide (0 ≤ (Nat.cast (R := Int) (i + 1)) ∧ (Nat.cast (R := Int) (i + 1)) ≤ (Nat.cast (R := Int) q.length)), decide (0 ≤ (Nat.cast (R := Int) i) ∧ (Nat.cast (R := Int) i) ≤ (Nat.cast (R := Int) (Nat.cast (R := Int) (i + 1)).toNat)), isL (DV.lst 4 (List.map chD [x]) false), isL (DV.lst 4 (List.map chD [y]) false), true, true, true] [(RV.d (DV.bool (decide ((Nat.cast (R := Int) i) < (Nat.cast (R := Int) p.length)))), RV.d (DV.bool true)), (RV.d (DV.int Go.IntKind.i64 (Go.IntKind.i64.wrap ((Nat.cast (R := Int) i) + 1))), RV.d (DV.int Go.IntKind.i64 (Nat.cast (R := Int) (i + 1)))), (RV.d (DV.lst 4 (cutL p (Option.some (Nat.cast (R := Int) i)) (Option.some (Nat.cast (R := Int) (i + 1)))) false), RV.d (DV.lst 4 (List.map chD [x]) false)), (RV.d (DV.int Go.IntKind.i64 (Go.IntKind.i64.wrap ((Nat.cast (R := Int) i) + 1))), RV.d (DV.int Go.IntKind.i64 (Nat.cast (R := Int) (i + 1)))), (RV.d (DV.lst 4 (cutL q (Option.some (Nat.cast (R := Int) i)) (Option.some (Nat.cast (R := Int) (i + 1)))) false), RV.d (DV.lst 4 (List.map chD [y]) false)), (RV.d (DV.lst 4 (List.map chD (Plain.concatC (unL (DV.lst (4) (List.map chD [x]) false)) (unL (DV.lst (4) (List.map chD [y]) false))).1) false), RV.d (DV.lst 4 [] false)), (RV.d (DV.int Go.IntKind.i64 (Plain.concatC (unL (DV.lst (4) (List.map chD [x]) false)) (unL (DV.lst (4) (List.map chD [y]) false))).2), RV.d (DV.int Go.IntKind.i64 (0))), (RV.d (DV.bool true), RV.d (DV.bool true)), (RV.d (DV.bool false), RV.d (DV.bool false)), (RV.d (DV.int Go.IntKind.i64 (Go.IntKind.i64.wrap ((Nat.cast (R := Int) i) + 1))), RV.d (DV.int Go.IntKind.i64 (Nat.cast (R := Int) (i + 1))))] rfl (by kernel_rfl : runSegA (cfT tn1') 1000 0 _ _ _ _ (cnS p q (i : Int)) = some (stackAt lnC 0, cnS p q ((i + 1 : Nat) : Int), _, _)) (by refine ⟨?_, ?_, ?_, ?_, ?_, ?_, ?_, ?_, ?_, trivial⟩ <;> (first | rfl | exact k1 | exact k2 | exact k3 | exact kx | exact ky)) (by refine ⟨?_, ?_, ?_, ?_, ?_, ?_, ?_, ?_, ?_, ?_, trivial⟩ <;> (first | exact w1 | exact w2 | exact w3 | exact w4 | exact le_bool w5 | exact w6 | exact le_bool rfl)) ?_
            exact hw
          · have w5 : decide ((Nat.cast (R := Int) i) < (Nat.cast (R := Int) (l.map chD).length)) = false := decide_eq_false (by rw [List.length_map]; omega)
            obtain ⟨p, hp⟩ : ∃ p, l.map chD = p := ⟨_, rfl⟩
            obtain ⟨q, hq⟩ : ∃ q, m.map chD = q := ⟨_, rfl⟩
            rw [hp] at w5
            rw [hp, hq]
            clear ih
            exact WK.fin ok 1000 0 [(77, RV.d (DV.bool false))] [] [(RV.d (DV.bool (decide ((Nat.cast (R := Int) i) < (Nat.cast (R := Int) p.length)))), RV.d (DV.bool false))] rfl (by kernel_rfl : runEnd (cfT tn1') true _ 1000 0 _ _ (cnS p q (i : Int)) = some (RV.d (DV.bool true), [], _, _)) trivial ⟨(by exact le_bool w5), trivial⟩ ⟨rfl, rfl⟩
        refine WK.segA ok 1000 0 [(9, RV.d (DV.bool false)), (10, RV.d (DV.bool false)), (13, RV.d (DV.bool false)), (14, RV.d (DV.bool false)), (17, RV.d (DV.bool false)), (43, RV.d (DV.lst 4 (List.map chD m) false)), (44, RV.d (DV.int Go.IntKind.i64 (0))), (46, RV.d (DV.bool false)), (47, RV.d (DV.bool false)), (52, RV.d (DV.bool false)), (53, RV.d (DV.bool false)), (54, RV.d (DV.bool false)), (59, RV.d (DV.lst 4 (List.map chD l) false)), (60, RV.d (DV.int Go.IntKind.i64 (0))), (61, RV.d (DV.bool true)), (62, RV.d (DV.bool false)), (63, RV.d (DV.bool false)), (64, RV.d (DV.bool false)), (69, RV.d (DV.lst 4 (List.map chD l) false)), (70, RV.d (DV.int Go.IntKind.i64 (0))), (71, RV.d (DV.bool true)), (72, RV.d (DV.bool false)), (73, RV.d (DV.bool false))] [] [0, 3, 74, 75, 76] [isLw (DV.lst 4 (List.map chD l) false), isL (DV.lst 4 (List.map chD l) false), isL (DV.lst 4 (List.map chD l) false), isL (DV.lst 4 (List.map chD l) false), true, isL (DV.lst 4 (List.map chD l) false), isL (DV.lst 4 (List.map chD l) false), isL (DV.lst 4 (List.map chD l) false), true, isL (DV.lst 4 (List.map chD l) false), isL (DV.lst 4 (List.map chD l) false)] [(RV.d (DV.bool (great2 (unL (chL l)))), RV.d (DV.bool false)), (RV.d (DV.bool false), RV.d (DV.bool false)), (RV.d (DV.bool (decide (100 < (Nat.cast (R := Int) (List.map chD l).length)))), RV.d (DV.bool false)), (RV.d (DV.bool false), RV.d (DV.bool false)), (RV.d (DV.bool ((if Plain.mayL (unL (chL l)) = true then (0 : Int) else 2) != 0)), RV.d (DV.bool false)), (RV.d (DV.lst 4 (List.map chD (Plain.invertC (unL (chL l))).1) false), RV.d (DV.lst 4 (List.map chD m) false)), (RV.d (DV.int Go.IntKind.i64 (Plain.invertC (unL (chL l))).2), RV.d (DV.int Go.IntKind.i64 (0))), (RV.d (DV.bool false), RV.d (DV.bool false)), (RV.d (DV.bool false), RV.d (DV.bool false)), (RV.d (DV.bool ((Nat.cast (R := Int) (List.map chD m).length) != (Nat.cast (R := Int) (List.map chD l).length))), RV.d (DV.bool false)), (RV.d (DV.bool false), RV.d (DV.bool false)), (RV.d (DV.bool false), RV.d (DV.bool false)), (RV.d (DV.lst 4 (List.map chD (Plain.concatC (unL (chL l)) []).1) false), RV.d (DV.lst 4 (List.map chD l) false)), (RV.d (DV.int Go.IntKind.i64 (Plain.concatC (unL (chL l)) []).2), RV.d (DV.int Go.IntKind.i64 (0))), (RV.d (DV.bool (true && decide (unL (chL l) = unL (DV.lst (4) (List.map chD l) false)))), RV.d (DV.bool true)), (RV.d (DV.bool false), RV.d (DV.bool false)), (RV.d (DV.bool false), RV.d (DV.bool false)), (RV.d (DV.bool false), RV.d (DV.bool false)), (RV.d (DV.lst 4 (List.map chD (Plain.concatC [] (unL (DV.lst (4) (List.map chD l) false))).1) false), RV.d (DV.lst 4 (List.map chD l) false)), (RV.d (DV.int Go.IntKind.i64 (Plain.concatC [] (unL (DV.lst (4) (List.map chD l) false))).2), RV.d (DV.int Go.IntKind.i64 (0))), (RV.d (DV.bool (true && decide (unL (chL l) = unL (DV.lst (4) (List.map chD l) false)))), RV.d (DV.bool true)), (RV.d (DV.bool false), RV.d (DV.bool false)), (RV.d (DV.bool false), RV.d (DV.bool false))] rfl (by kernel_rfl : runSegA (cfT tn1') 1000 0 _ _ _ _ (ini 96 [.d (chL l)] []) = some (stackAt lnC 0, cnS (l.map chD) (m.map chD) 0, _, _)) (by refine ⟨?_, ?_, ?_, ?_, ?_, ?_, ?_, ?_, ?_, ?_, ?_, trivial⟩ <;> (first | rfl | exact ia | exact ka)) (by refine ⟨?_, ?_, ?_, ?_, ?_, ?_, ?_, ?_, ?_, ?_, ?_, ?_, ?_, ?_, ?_, ?_, ?_, ?_, ?_, ?_, ?_, ?_, ?_, trivial⟩ <;> (first | exact q1 | exact q2 | exact q3 | exact v1 | exact v2 | exact v3 | exact v4 | exact v5 | exact v6 | exact v7 | exact v8 | exact le_bool rfl)) ?_
        exact hloop
end Go.Proofs.Ytljfolepmkcjlaa

/-
  A law's arguments as changes.
-/
namespace Go.Proofs.Ytljfolepmkcjlaa
open Go.RowKit Plain Am
set_option maxRecDepth 100000

theorem und_row : Try.prog.underlying 44 = some (.slice 49) := by kernel_rfl
theorem agg_val : isAggT Try.prog 49 = true := by kernel_rfl
theorem cells_val : Try.prog.cellsOf 49 = 3 := by kernel_rfl

theorem val_ty {xs : List DV} (h : Ty Try.prog 49 xs) : ∃ v, .agg xs = vD v ∧ v.wf := by
  have hu : ∃ fs, Try.prog.underlying 49 = some (.struct fs) ∧ (fs[0]?.map fun f => (f.type, f.offset)) = some (5, 0) ∧ (fs[1]?.map fun f => (f.type, f.offset)) = some (2, 1) ∧ (fs[2]?.map fun f => (f.type, f.offset)) = some (9, 2) :=
    ⟨_, Try.underlying49, rfl, rfl, rfl⟩
  obtain ⟨fs, hu, e0, e1, e2⟩ := hu
  obtain ⟨hl, hf⟩ := h.struct_inv hu
  rw [cells_val] at hl
  match xs, hl with
  | [a, b, c], _ =>
    simp only [Option.map_eq_some_iff, Prod.mk.injEq] at e0 e1 e2
    obtain ⟨f0, h0, t0, o0⟩ := e0
    obtain ⟨f1, h1, t1, o1⟩ := e1
    obtain ⟨f2, h2, t2, o2⟩ := e2
    have k0 := hf 0 f0 h0
    have k1 := hf 1 f1 h1
    have k2 := hf 2 f2 h2
    rw [t0, o0, (by kernel_rfl : Try.prog.cellsOf 5 = 1)] at k0
    rw [t1, o1, (by kernel_rfl : Try.prog.cellsOf 2 = 1)] at k1
    rw [t2, o2, (by kernel_rfl : Try.prog.cellsOf 9 = 1)] at k2
    obtain ⟨k, q0, w0⟩ := k0.int_inv (k := .u8) (by kernel_rfl)
    obtain ⟨n, q1, w1⟩ := k1.int_inv (k := .i64) (by kernel_rfl)
    obtain ⟨s, q2, _⟩ := k2.str_inv (by kernel_rfl)
    simp at q0 q1 q2
    subst q0 q1 q2
    refine ⟨⟨k, n, s⟩, rfl, ?_⟩
    simp [Lit.wf, IntKind.min, IntKind.max, IntKind.signed, IntKind.bits] at w0 w1
    exact ⟨w0.1, w0.2, w1.1, w1.2⟩

theorem row_ty {xs : List DV} (h : Ty Try.prog 44 xs) : ∃ l : List Val, xs = [.lst 3 (l.map vD) false] ∧ (∀ v ∈ l, v.wf) := by
  obtain ⟨els, rfl, _, he⟩ := h.lst_inv und_row
  rw [cells_val]
  have : ∀ els : List DV, (∀ x ∈ els, x = elOf (isAggT Try.prog 49) x.cells ∧ x.cells.length = Try.prog.cellsOf 49 ∧ Ty Try.prog 49 x.cells) → ∃ l : List Val, els = l.map vD ∧ ∀ v ∈ l, v.wf := by
    intro els
    induction els with
    | nil => intro _; exact ⟨[], rfl, by simp⟩
    | cons x r ih =>
      intro h
      obtain ⟨l, h1, h2⟩ := ih (fun y hy => h y (by simp [hy]))
      obtain ⟨g1, _, g3⟩ := h x (by simp)
      obtain ⟨v, v1, v2⟩ := val_ty g3
      rw [agg_val] at g1
      refine ⟨v :: l, by rw [g1, h1]; simp only [elOf, cond_true, v1, List.map_cons], fun u hu => ?_⟩
      rcases List.mem_cons.1 hu with rfl | hu
      · exact v2
      · exact h2 u hu
  obtain ⟨l, rfl, h2⟩ := this els he
  exact ⟨l, rfl, h2⟩

theorem und_chg : Try.prog.underlying 22 = some (.slice 46) := by kernel_rfl
theorem agg_chg : isAggT Try.prog 46 = true := by kernel_rfl
theorem cells_chg : Try.prog.cellsOf 46 = 4 := by kernel_rfl
theorem chg1_ty {xs : List DV} (h : Ty Try.prog 46 xs) : ∃ v : Chg, .agg xs = chD v ∧ v.wf := by
  have hu : ∃ fs, Try.prog.underlying 46 = some (.struct fs) ∧ (fs[0]?.map fun f => (f.type, f.offset)) = some (9, 0) ∧ (fs[1]?.map fun f => (f.type, f.offset)) = some (44, 1) ∧ (fs[2]?.map fun f => (f.type, f.offset)) = some (44, 2) ∧ (fs[3]?.map fun f => (f.type, f.offset)) = some (44, 3) :=
    ⟨_, Try.underlying46, rfl, rfl, rfl, rfl⟩
  obtain ⟨fs, hu, e0, e1, e2, e3⟩ := hu
  obtain ⟨hl, hf⟩ := h.struct_inv hu
  rw [cells_chg] at hl
  match xs, hl with
  | [a, b, c, d], _ =>
    simp only [Option.map_eq_some_iff, Prod.mk.injEq] at e0 e1 e2 e3
    obtain ⟨f0, h0, t0, o0⟩ := e0
    obtain ⟨f1, h1, t1, o1⟩ := e1
    obtain ⟨f2, h2, t2, o2⟩ := e2
    obtain ⟨f3, h3, t3, o3⟩ := e3
    have k0 := hf 0 f0 h0
    have k1 := hf 1 f1 h1
    have k2 := hf 2 f2 h2
    have k3 := hf 3 f3 h3
    rw [t0, o0, (by kernel_rfl : Try.prog.cellsOf 9 = 1)] at k0
    rw [t1, o1, (by kernel_rfl : Try.prog.cellsOf 44 = 1)] at k1
    rw [t2, o2, (by kernel_rfl : Try.prog.cellsOf 44 = 1)] at k2
    rw [t3, o3, (by kernel_rfl : Try.prog.cellsOf 44 = 1)] at k3
    obtain ⟨s, q0, _⟩ := k0.str_inv (by kernel_rfl)
    obtain ⟨l1, q1, w1⟩ := row_ty k1
    obtain ⟨l2, q2, w2⟩ := row_ty k2
    obtain ⟨l3, q3, w3⟩ := row_ty k3
    simp at q0 q1 q2 q3
    subst q0 q1 q2 q3
    exact ⟨⟨s, l1, l2, l3⟩, rfl, w1, w2, w3⟩
theorem chg_ty {xs : List DV} (h : Ty Try.prog 22 xs) : ∃ l : List Chg, xs = [chL l] ∧ l.length ≤ 9223372036854775807 ∧ ∀ x ∈ l, x.wf := by
  obtain ⟨els, rfl, hn, he⟩ := h.lst_inv und_chg
  rw [cells_chg]
  have : ∀ els : List DV, (∀ x ∈ els, x = elOf (isAggT Try.prog 46) x.cells ∧ x.cells.length = Try.prog.cellsOf 46 ∧ Ty Try.prog 46 x.cells) → ∃ l : List Chg, els = l.map chD ∧ ∀ x ∈ l, x.wf := by
    intro els
    induction els with
    | nil => intro _; exact ⟨[], rfl, by simp⟩
    | cons x r ih =>
      intro h
      obtain ⟨l, h1, h2⟩ := ih (fun y hy => h y (by simp [hy]))
      obtain ⟨g1, _, g3⟩ := h x (by simp)
      obtain ⟨v, v1, v2⟩ := chg1_ty g3
      rw [agg_chg] at g1
      exact ⟨v :: l, by rw [g1, h1]; simp only [elOf, cond_true, v1, List.map_cons], fun z hz => by
        rcases List.mem_cons.1 hz with rfl | hz
        · exact v2
        · exact h2 z hz⟩
  obtain ⟨l, rfl, hl⟩ := this els he
  refine ⟨l, rfl, ?_, hl⟩
  rw [List.length_map] at hn
  exact Nat.le_trans hn (by decide)
end Go.Proofs.Ytljfolepmkcjlaa
