/-
  slices.Equal of rows, value.Compare, value.CompareRows.
-/
import Derived.Test.YtljfolepmkcjlaaCB2
namespace Go.Proofs.Ytljfolepmkcjlaa
open Go.RowKit Plain Am IntWalk
set_option maxRecDepth 100000
set_option linter.unusedVariables false
set_option linter.unusedSimpArgs false

noncomputable abbrev eqC : Code := (Try.f33.body).getD .skip
def eqS (x y : List DV) (i : Nat) : ESt := { n := 26, m := 0, regs := T.mk [(0, .d (.lst 3 x false)), (1, .d (.lst 3 y false)), (12, .d (.int .i64 (x.length : Int))), (13, .d (.int .i64 (i : Int)))], objs := T.mk [] }
noncomputable abbrev cvC : Code := (Try.f79.body).getD .skip
noncomputable abbrev crC : Code := (Try.f62.body).getD .skip
def crS (x y : List DV) (m i : Nat) : ESt := { n := 40, m := 0, regs := T.mk [(0, .d (.lst 3 x false)), (1, .d (.lst 3 y false)), (11, .d (.int .i64 (m : Int))), (12, .d (.int .i64 (i : Int)))], objs := T.mk [] }
theorem at_ex (l : List Val) (i : Nat) : ∃ v, ∀ h : i < l.length, l[i] = v := by
  by_cases h : i < l.length
  · exact ⟨l[i], fun _ => rfl⟩
  · exact ⟨⟨0, 0, []⟩, fun h' => absurd h' h⟩
theorem at_chg (l : List Chg) (i : Nat) : ∃ v, ∀ h : i < l.length, l[i] = v := by
  by_cases h : i < l.length
  · exact ⟨l[i], fun _ => rfl⟩
  · exact ⟨⟨[], [], [], []⟩, fun h' => absurd h' h⟩
theorem lt_map {α β : Type} {f : α → β} {l : List α} {i : Nat} (h : decide ((Nat.cast (R := Int) i) < (Nat.cast (R := Int) (l.map f).length)) = true) : i < l.length := by
  have := of_decide_eq_true h; rw [List.length_map] at this; omega
theorem ge_map {α β : Type} {f : α → β} {l : List α} {i : Nat} (h : decide ((Nat.cast (R := Int) i) < (Nat.cast (R := Int) (l.map f).length)) = false) : l.length ≤ i := by
  have := of_decide_eq_false h; rw [List.length_map] at this; omega
theorem bd_map {α β : Type} {f : α → β} {l : List α} {i : Nat} (h : i < l.length) : decide (0 ≤ (Nat.cast (R := Int) i) ∧ (Nat.cast (R := Int) i) < (Nat.cast (R := Int) (l.map f).length)) = true := by
  refine decide_eq_true ?_; rw [List.length_map]; omega
theorem ov_val {l : List Val} {i : Nat} {v : Val} (h : i < l.length) (hv : l[i] = v) : RVle (.iptr ((l.map vD).getD (Nat.cast (R := Int) i).toNat .nilp) 0) (.iptr (vD v) 0) := .of_eq (by rw [Int.toNat_natCast, getD_val l i h, hv])
theorem ov_chg {l : List Chg} {i : Nat} {v : Chg} (h : i < l.length) (hv : l[i] = v) : RVle (.iptr ((l.map chD).getD (Nat.cast (R := Int) i).toNat .nilp) 0) (.iptr (chD v) 0) := .of_eq (by rw [Int.toNat_natCast, getD_chg l i h, hv])
theorem ov_succ {i : Nat} (h : i ≤ 1000000) : RVle (.d (.int .i64 (IntKind.i64.wrap ((Nat.cast (R := Int) i) + 1)))) (.d (.int .i64 (Nat.cast (R := Int) (i + 1)))) := .of_eq (by rw [wrap_succ h])
theorem neV (v w : Val) : (!(v.1 == w.1 && (v.2 == w.2 && (v.3 == w.3 && true)))) = !decide (v = w) := by
  obtain ⟨k, n, s⟩ := v
  obtain ⟨k2, n2, s2⟩ := w
  congr 1
  apply Bool.eq_iff_iff.2
  simp

theorem eqR_c (a b : List Val) (ha : a.length ≤ 65536) : C Try.prog 33 [.d (rD a), .d (rD b)] [] (fun r o => r = .d (.bool (decide (a = b))) ∧ o = []) := by
  have ok := cfT_ok (l := []) .nil
  refine C_of_run (fn := Try.f33) (body := eqC) true (by kernel_rfl) (by kernel_rfl) (by kernel_rfl) ?_
  have hloop : a.length = b.length → WK Try.prog 0 (stackAt eqC 0) (eqS (a.map vD) (b.map vD) 0).den (Ends (Try.f33.results.toList) (.d (.bool (decide (a = b))))) := by
    intro hlen
    refine WK.rec' (fun i => eqS (a.map vD) (b.map vD) i) (fun i => i ≤ a.length ∧ a.take i = b.take i) (fun i => a.length - i) ?_ 0 ⟨Nat.zero_le _, rfl⟩
    rintro i ⟨hi, ht⟩ ih
    obtain ⟨v, hv⟩ := at_ex a i
    obtain ⟨w, hw⟩ := at_ex b i
    have hb : i < a.length → i < b.length := fun h => by omega
    rcases Bool.eq_false_or_eq_true (decide ((Nat.cast (R := Int) i) < (Nat.cast (R := Int) (a.map vD).length)) : Bool) with h14 | h14
    · skip
      rcases Bool.eq_false_or_eq_true (!(v.1 == w.1 && (v.2 == w.2 && (v.3 == w.3 && true))) : Bool) with h24 | h24
      · skip
        exact WK.fin ok 1000 0 [(18, RV.iptr (DV.agg [DV.int Go.IntKind.u8 v.1, DV.int Go.IntKind.i64 v.2, DV.str v.3]) 0), (22, RV.iptr (DV.agg [DV.int Go.IntKind.u8 w.1, DV.int Go.IntKind.i64 w.2, DV.str w.3]) 0), (25, RV.d (DV.int Go.IntKind.i64 (Nat.cast (R := Int) (i + 1)))), (14, RV.d (DV.bool true)), (24, RV.d (DV.bool true))] [decide (0 ≤ (Nat.cast (R := Int) i) ∧ (Nat.cast (R := Int) i) < (Nat.cast (R := Int) (a.map vD).length)), decide (0 ≤ (Nat.cast (R := Int) i) ∧ (Nat.cast (R := Int) i) < (Nat.cast (R := Int) (b.map vD).length))] [(RV.d (DV.bool (decide ((Nat.cast (R := Int) i) < (Nat.cast (R := Int) (a.map vD).length)))), RV.d (DV.bool true)), (RV.iptr ((a.map vD).getD (Nat.cast (R := Int) i).toNat DV.nilp) 0, RV.iptr (DV.agg [DV.int Go.IntKind.u8 v.1, DV.int Go.IntKind.i64 v.2, DV.str v.3]) 0), (RV.iptr ((b.map vD).getD (Nat.cast (R := Int) i).toNat DV.nilp) 0, RV.iptr (DV.agg [DV.int Go.IntKind.u8 w.1, DV.int Go.IntKind.i64 w.2, DV.str w.3]) 0), (RV.d (DV.bool !(v.1 == w.1 && (v.2 == w.2 && (v.3 == w.3 && true)))), RV.d (DV.bool true))] rfl (by kernel_rfl : runEnd (cfT []) true _ 1000 0 _ _ (eqS (a.map vD) (b.map vD) i) = some (RV.d (DV.bool false), [], _, _)) (by refine ⟨?_, ?_, trivial⟩ <;> (first | exact bd_map (lt_map h14) | exact bd_map (hb (lt_map h14)))) (by refine ⟨le_bool h14, ?_, ?_, le_bool h24, trivial⟩ <;> (first | exact ov_val (lt_map h14) (hv (lt_map h14)) | exact ov_val (hb (lt_map h14)) (hw (hb (lt_map h14))) | exact ov_succ (by omega))) ⟨by first | (congr 2; refine (decide_eq_false ?_).symm; rintro rfl; have e1 := hv (lt_map h14); have e2 := hw (lt_map h14); rw [neV] at h24; simp [← e1, ← e2] at h24; done) | (congr 2; refine (decide_eq_true ?_).symm; have e := ge_map h14; rwa [List.take_of_length_le e, List.take_of_length_le (by omega)] at ht), rfl⟩
      · skip
        refine WK.segA ok 1000 0 [(18, RV.iptr (DV.agg [DV.int Go.IntKind.u8 v.1, DV.int Go.IntKind.i64 v.2, DV.str v.3]) 0), (22, RV.iptr (DV.agg [DV.int Go.IntKind.u8 w.1, DV.int Go.IntKind.i64 w.2, DV.str w.3]) 0), (25, RV.d (DV.int Go.IntKind.i64 (Nat.cast (R := Int) (i + 1)))), (14, RV.d (DV.bool true)), (24, RV.d (DV.bool false))] [] [0, 1, 12, 13] [decide (0 ≤ (Nat.cast (R := Int) i) ∧ (Nat.cast (R := Int) i) < (Nat.cast (R := Int) (a.map vD).length)), decide (0 ≤ (Nat.cast (R := Int) i) ∧ (Nat.cast (R := Int) i) < (Nat.cast (R := Int) (b.map vD).length))] [(RV.d (DV.bool (decide ((Nat.cast (R := Int) i) < (Nat.cast (R := Int) (a.map vD).length)))), RV.d (DV.bool true)), (RV.iptr ((a.map vD).getD (Nat.cast (R := Int) i).toNat DV.nilp) 0, RV.iptr (DV.agg [DV.int Go.IntKind.u8 v.1, DV.int Go.IntKind.i64 v.2, DV.str v.3]) 0), (RV.iptr ((b.map vD).getD (Nat.cast (R := Int) i).toNat DV.nilp) 0, RV.iptr (DV.agg [DV.int Go.IntKind.u8 w.1, DV.int Go.IntKind.i64 w.2, DV.str w.3]) 0), (RV.d (DV.bool !(v.1 == w.1 && (v.2 == w.2 && (v.3 == w.3 && true)))), RV.d (DV.bool false)), (RV.d (DV.int Go.IntKind.i64 (Go.IntKind.i64.wrap ((Nat.cast (R := Int) i) + 1))), RV.d (DV.int Go.IntKind.i64 (Nat.cast (R := Int) (i + 1))))] rfl (by kernel_rfl : runSegA (cfT []) 1000 0 _ _ _ _ (eqS (a.map vD) (b.map vD) i) = some (stackAt eqC 0, eqS (a.map vD) (b.map vD) (i + 1), _, _)) (by refine ⟨?_, ?_, trivial⟩ <;> (first | exact bd_map (lt_map h14) | exact bd_map (hb (lt_map h14)))) (by refine ⟨le_bool h14, ?_, ?_, le_bool h24, ?_, trivial⟩ <;> (first | exact ov_val (lt_map h14) (hv (lt_map h14)) | exact ov_val (hb (lt_map h14)) (hw (hb (lt_map h14))) | exact ov_succ (by omega))) ?_
        have hl := lt_map h14
        refine ih (i + 1) ⟨hl, ?_⟩ (by omega)
        rw [neV] at h24
        have e : v = w := (by simpa using h24)
        rw [List.take_add_one, List.take_add_one, ht, List.getElem?_eq_getElem hl, List.getElem?_eq_getElem (hb hl), hv hl, hw (hb hl), e]
    · skip
      exact WK.fin ok 1000 0 [(18, RV.iptr (DV.agg [DV.int Go.IntKind.u8 v.1, DV.int Go.IntKind.i64 v.2, DV.str v.3]) 0), (22, RV.iptr (DV.agg [DV.int Go.IntKind.u8 w.1, DV.int Go.IntKind.i64 w.2, DV.str w.3]) 0), (25, RV.d (DV.int Go.IntKind.i64 (Nat.cast (R := Int) (i + 1)))), (14, RV.d (DV.bool false))] [] [(RV.d (DV.bool (decide ((Nat.cast (R := Int) i) < (Nat.cast (R := Int) (a.map vD).length)))), RV.d (DV.bool false))] rfl (by kernel_rfl : runEnd (cfT []) true _ 1000 0 _ _ (eqS (a.map vD) (b.map vD) i) = some (RV.d (DV.bool true), [], _, _)) trivial ⟨le_bool h14, trivial⟩ ⟨by first | (congr 2; refine (decide_eq_false ?_).symm; rintro rfl; have e1 := hv (lt_map h14); have e2 := hw (lt_map h14); rw [neV] at h24; simp [← e1, ← e2] at h24; done) | (congr 2; refine (decide_eq_true ?_).symm; have e := ge_map h14; rwa [List.take_of_length_le e, List.take_of_length_le (by omega)] at ht), rfl⟩
  rcases Bool.eq_false_or_eq_true ((Nat.cast (R := Int) (a.map vD).length) != (Nat.cast (R := Int) (b.map vD).length) : Bool) with h10 | h10
  · skip
    exact WK.fin ok 1000 0 [(10, RV.d (DV.bool true))] [] [(RV.d (DV.bool ((Nat.cast (R := Int) (a.map vD).length) != (Nat.cast (R := Int) (b.map vD).length))), RV.d (DV.bool true))] rfl (by kernel_rfl : runEnd (cfT []) true _ 1000 0 _ _ (ini 26 [.d (rD a), .d (rD b)] []) = some (RV.d (DV.bool false), [], _, _)) trivial ⟨le_bool h10, trivial⟩ ⟨by congr 2; refine (decide_eq_false ?_).symm; rintro rfl; simp at h10, rfl⟩
  · skip
    refine WK.segA ok 1000 0 [(10, RV.d (DV.bool false))] [] [0, 1, 12, 13] [] [(RV.d (DV.bool ((Nat.cast (R := Int) (a.map vD).length) != (Nat.cast (R := Int) (b.map vD).length))), RV.d (DV.bool false))] rfl (by kernel_rfl : runSegA (cfT []) 1000 0 _ _ _ _ (ini 26 [.d (rD a), .d (rD b)] []) = some (stackAt eqC 0, eqS (a.map vD) (b.map vD) 0, _, _)) trivial ⟨le_bool h10, trivial⟩ ?_
    have e : (a.length : Int) = b.length := (by simpa using h10)
    exact hloop (by omega)

theorem cv_c (k n : Int) (s : Bs) (k2 n2 : Int) (s2 : Bs) : C Try.prog 79 [.d (vv k n s), .d (vv k2 n2 s2)] [] (fun r o => r = .d (.int .i64 (cmpV ⟨k, n, s⟩ ⟨k2, n2, s2⟩)) ∧ o = []) := by
  have ok := cfT_ok tb_ok
  refine C_of_run (fn := Try.f79) (body := cvC) true (by kernel_rfl) (by kernel_rfl) (by kernel_rfl) ?_
  by_cases hk : k = k2 ∧ (k = 1 ∨ k = 2 ∨ k = 3)
  · obtain ⟨rfl, rfl | rfl | rfl⟩ := hk
    · by_cases hn : n = n2
      · subst hn
        exact WK.fin ok 2000 0 [(27, .d (.bool false)), (41, .d (.bool false))] [] [(.d (.bool (n != n)), .d (.bool false)), (.d (.bool false), .d (.bool false))] rfl (by kernel_rfl : runEnd (cfT tb) true _ 2000 0 _ _ (ini 47 [.d (vv 1 n s), .d (vv 1 n s2)] []) = some (.d (.int .i64 0), [], _, _)) trivial ⟨le_bool (by simp), le_bool rfl, trivial⟩ ⟨by simp [cmpV, cmpI], rfl⟩
      · by_cases hl : n < n2
        · exact WK.fin ok 2000 0 [(27, .d (.bool true)), (32, .d (.bool true))] [] [(.d (.bool (n != n2)), .d (.bool true)), (.d (.bool (decide (n < n2))), .d (.bool true))] rfl (by kernel_rfl : runEnd (cfT tb) true _ 2000 0 _ _ (ini 47 [.d (vv 1 n s), .d (vv 1 n2 s2)] []) = some (.d (.int .i64 (-1)), [], _, _)) trivial ⟨le_bool (by simpa using hn), le_bool (by simpa using hl), trivial⟩ ⟨by simp [cmpV, cmpI, hl], rfl⟩
        · exact WK.fin ok 2000 0 [(27, .d (.bool true)), (32, .d (.bool false))] [] [(.d (.bool (n != n2)), .d (.bool true)), (.d (.bool (decide (n < n2))), .d (.bool false))] rfl (by kernel_rfl : runEnd (cfT tb) true _ 2000 0 _ _ (ini 47 [.d (vv 1 n s), .d (vv 1 n2 s2)] []) = some (.d (.int .i64 1), [], _, _)) trivial ⟨le_bool (by simpa using hn), le_bool (by simpa using hl), trivial⟩ ⟨by simp [cmpV, cmpI, hl]; omega, rfl⟩
    · exact WK.fin ok 2000 0 [] [] [] rfl (by kernel_rfl : runEnd (cfT tb) true _ 2000 0 _ _ (ini 47 [.d (vv 2 n s), .d (vv 2 n2 s2)] []) = some (.d (.int .i64 (cmpS s s2)), [], _, _)) trivial trivial ⟨by simp [cmpV], rfl⟩
    · exact WK.fin ok 2000 0 [(41, .d (.bool true))] [] [(.d (.bool true), .d (.bool true))] rfl (by kernel_rfl : runEnd (cfT tb) true _ 2000 0 _ _ (ini 47 [.d (vv 3 n s), .d (vv 3 n2 s2)] []) = some (.d (.int .i64 (cmpS s s2)), [], _, _)) trivial ⟨le_bool rfl, trivial⟩ ⟨by simp [cmpV], rfl⟩
  · skip
    rcases Bool.eq_false_or_eq_true (decide (k < k2) : Bool) with h10 | h10
    · skip
      exact WK.fin ok 2000 0 [(20, RV.d (DV.bool false)), (36, RV.d (DV.bool false)), (40, RV.d (DV.bool false)), (10, RV.d (DV.bool true))] [] [(RV.d (DV.bool (decide (k < k2))), RV.d (DV.bool true))] rfl (by kernel_rfl : runEnd (cfT tb) true _ 2000 0 _ _ (ini 47 [.d (vv k n s), .d (vv k2 n2 s2)] []) = some (RV.d (DV.int Go.IntKind.i64 (-1)), [], _, _)) trivial ⟨le_bool h10, trivial⟩ ⟨by unfold cmpV; first | (have e1 := of_decide_eq_true h10; simp [e1]; done) | (have e1 := of_decide_eq_false h10; have e2 := of_decide_eq_true h16; simp [e1, e2]; done) | (have e1 := of_decide_eq_false h10; have e2 := of_decide_eq_false h16; have e : k = k2 := (by omega); subst e; rw [if_neg (by simp), if_neg (by simp)]; simp only; rw [if_neg (fun h => hk ⟨rfl, .inl h⟩), if_neg (fun h => hk ⟨rfl, .inr h⟩)]), rfl⟩
    · skip
      rcases Bool.eq_false_or_eq_true (decide (k2 < k) : Bool) with h16 | h16
      · skip
        exact WK.fin ok 2000 0 [(20, RV.d (DV.bool false)), (36, RV.d (DV.bool false)), (40, RV.d (DV.bool false)), (10, RV.d (DV.bool false)), (16, RV.d (DV.bool true))] [] [(RV.d (DV.bool (decide (k < k2))), RV.d (DV.bool false)), (RV.d (DV.bool (decide (k2 < k))), RV.d (DV.bool true))] rfl (by kernel_rfl : runEnd (cfT tb) true _ 2000 0 _ _ (ini 47 [.d (vv k n s), .d (vv k2 n2 s2)] []) = some (RV.d (DV.int Go.IntKind.i64 (1)), [], _, _)) trivial ⟨le_bool h10, le_bool h16, trivial⟩ ⟨by unfold cmpV; first | (have e1 := of_decide_eq_true h10; simp [e1]; done) | (have e1 := of_decide_eq_false h10; have e2 := of_decide_eq_true h16; simp [e1, e2]; done) | (have e1 := of_decide_eq_false h10; have e2 := of_decide_eq_false h16; have e : k = k2 := (by omega); subst e; rw [if_neg (by simp), if_neg (by simp)]; simp only; rw [if_neg (fun h => hk ⟨rfl, .inl h⟩), if_neg (fun h => hk ⟨rfl, .inr h⟩)]), rfl⟩
      · skip
        exact WK.fin ok 2000 0 [(20, RV.d (DV.bool false)), (36, RV.d (DV.bool false)), (40, RV.d (DV.bool false)), (10, RV.d (DV.bool false)), (16, RV.d (DV.bool false))] [] [(RV.d (DV.bool (decide (k < k2))), RV.d (DV.bool false)), (RV.d (DV.bool (decide (k2 < k))), RV.d (DV.bool false)), (RV.d (DV.bool (k == 1)), RV.d (DV.bool false)), (RV.d (DV.bool (k == 2)), RV.d (DV.bool false)), (RV.d (DV.bool (k == 3)), RV.d (DV.bool false))] rfl (by kernel_rfl : runEnd (cfT tb) true _ 2000 0 _ _ (ini 47 [.d (vv k n s), .d (vv k2 n2 s2)] []) = some (RV.d (DV.int Go.IntKind.i64 (0)), [], _, _)) trivial (by refine ⟨le_bool h10, le_bool h16, ?_, ?_, ?_, trivial⟩ <;> (first | exact le_bool (by have e1 := of_decide_eq_false h10; have e2 := of_decide_eq_false h16; apply beq_eq_false_iff_ne.2; rintro rfl; exact hk ⟨by omega, by simp⟩))) ⟨by unfold cmpV; first | (have e1 := of_decide_eq_true h10; simp [e1]; done) | (have e1 := of_decide_eq_false h10; have e2 := of_decide_eq_true h16; simp [e1, e2]; done) | (have e1 := of_decide_eq_false h10; have e2 := of_decide_eq_false h16; have e : k = k2 := (by omega); subst e; rw [if_neg (by simp), if_neg (by simp)]; simp only; rw [if_neg (fun h => hk ⟨rfl, .inl h⟩), if_neg (fun h => hk ⟨rfl, .inr h⟩)]), rfl⟩
theorem cv_ent : EntOk Try.prog 79 (e2 cvG) := by
  refine e2_ok fun x x2 y c hg hc => ?_
  unfold cvG at hg
  split at hg
  · simp only [Option.some.injEq, Prod.mk.injEq] at hg
    obtain ⟨rfl, rfl⟩ := hg
    exact cv_c _ _ _ _ _ _
  · cases hg
noncomputable def t1 : List (Nat × Ent) := [(79, e2 cvG)]
theorem t1_ok : EntsOk Try.prog t1 := .cons cv_ent .nil

theorem cmpR_drop {a b : List Val} {i : Nat} (ha : i < a.length) (hb : i < b.length) : cmpR (a.drop i) (b.drop i) = if cmpV a[i] b[i] = 0 then cmpR (a.drop (i + 1)) (b.drop (i + 1)) else cmpV a[i] b[i] := by
  rw [List.drop_eq_getElem_cons ha, List.drop_eq_getElem_cons hb]; rfl
theorem cmpR_end {a b : List Val} {i : Nat} (h : a.length ≤ i ∨ b.length ≤ i) (ha : i ≤ a.length) (hb : i ≤ b.length) : cmpR (a.drop i) (b.drop i) = cmpI a.length b.length := by
  unfold cmpI
  rcases h with h | h
  · rw [List.drop_eq_nil_of_le h]
    by_cases h2 : b.length ≤ i
    · rw [List.drop_eq_nil_of_le h2, if_neg (by omega), if_neg (by omega)]; rfl
    · rw [List.drop_eq_getElem_cons (by omega), if_pos (by omega)]; rfl
  · rw [List.drop_eq_nil_of_le h]
    by_cases h2 : a.length ≤ i
    · rw [List.drop_eq_nil_of_le h2, if_neg (by omega), if_neg (by omega)]; rfl
    · rw [List.drop_eq_getElem_cons (by omega), if_neg (by omega), if_pos (by omega)]; rfl
theorem cr_c (a b : List Val) (ha : a.length ≤ 65536) : C Try.prog 62 [.d (rD a), .d (rD b)] [] (fun r o => r = .d (.int .i64 (cmpR a b)) ∧ o = []) := by
  have ok := cfT_ok t1_ok
  refine C_of_run (fn := Try.f62) (body := crC) true (by kernel_rfl) (by kernel_rfl) (by kernel_rfl) ?_
  obtain ⟨m, hm⟩ : ∃ m, min a.length b.length = m := ⟨_, rfl⟩
  have hloop : WK Try.prog 0 (stackAt crC 0) (crS (a.map vD) (b.map vD) m 0).den (Ends (Try.f62.results.toList) (.d (.int .i64 (cmpR a b)))) := by
    refine WK.rec' (fun i => crS (a.map vD) (b.map vD) m i) (fun i => i ≤ m ∧ cmpR (a.drop i) (b.drop i) = cmpR a b) (fun i => m - i) ?_ 0 ⟨Nat.zero_le _, rfl⟩
    rintro i ⟨hi, ht⟩ ih
    obtain ⟨v, hv⟩ := at_ex a i
    obtain ⟨w, hw⟩ := at_ex b i
    have hlt : decide ((Nat.cast (R := Int) i) < (Nat.cast (R := Int) m)) = true → i < a.length ∧ i < b.length := fun h => by have := of_decide_eq_true h; omega
    have hstep : decide ((Nat.cast (R := Int) i) < (Nat.cast (R := Int) m)) = true → (if cmpV v w = 0 then cmpR (a.drop (i + 1)) (b.drop (i + 1)) else cmpV v w) = cmpR a b := fun h => by
      rw [← ht, cmpR_drop (hlt h).1 (hlt h).2, hv (hlt h).1, hw (hlt h).2]
    have hend : decide ((Nat.cast (R := Int) i) < (Nat.cast (R := Int) m)) = false → cmpI a.length b.length = cmpR a b := fun h => by
      have := of_decide_eq_false h
      rw [← ht, cmpR_end (by omega) (by omega) (by omega)]
    have hla : (Nat.cast (R := Int) (a.map vD).length) = (Nat.cast (R := Int) a.length) := by rw [List.length_map]
    have hlb : (Nat.cast (R := Int) (b.map vD).length) = (Nat.cast (R := Int) b.length) := by rw [List.length_map]
    rcases Bool.eq_false_or_eq_true (decide ((Nat.cast (R := Int) i) < (Nat.cast (R := Int) m)) : Bool) with h13 | h13
    · skip
      rcases Bool.eq_false_or_eq_true (Plain.cmpV { k := v.1, n := v.2, s := v.3 } { k := w.1, n := w.2, s := w.3 } != 0 : Bool) with h25 | h25
      · skip
        exact WK.fin ok 1000 0 [(17, RV.iptr (DV.agg [DV.int Go.IntKind.u8 v.1, DV.int Go.IntKind.i64 v.2, DV.str v.3]) 0), (21, RV.iptr (DV.agg [DV.int Go.IntKind.u8 w.1, DV.int Go.IntKind.i64 w.2, DV.str w.3]) 0), (27, RV.d (DV.int Go.IntKind.i64 (Nat.cast (R := Int) (i + 1)))), (13, RV.d (DV.bool true)), (25, RV.d (DV.bool true))] [decide (0 ≤ (Nat.cast (R := Int) i) ∧ (Nat.cast (R := Int) i) < (Nat.cast (R := Int) (a.map vD).length)), decide (0 ≤ (Nat.cast (R := Int) i) ∧ (Nat.cast (R := Int) i) < (Nat.cast (R := Int) (b.map vD).length))] [(RV.d (DV.bool (decide ((Nat.cast (R := Int) i) < (Nat.cast (R := Int) m)))), RV.d (DV.bool true)), (RV.iptr ((a.map vD).getD (Nat.cast (R := Int) i).toNat DV.nilp) 0, RV.iptr (DV.agg [DV.int Go.IntKind.u8 v.1, DV.int Go.IntKind.i64 v.2, DV.str v.3]) 0), (RV.iptr ((b.map vD).getD (Nat.cast (R := Int) i).toNat DV.nilp) 0, RV.iptr (DV.agg [DV.int Go.IntKind.u8 w.1, DV.int Go.IntKind.i64 w.2, DV.str w.3]) 0), (RV.d (DV.bool (Plain.cmpV { k := v.1, n := v.2, s := v.3 } { k := w.1, n := w.2, s := w.3 } != 0)), RV.d (DV.bool true))] rfl (by kernel_rfl : runEnd (cfT t1) true _ 1000 0 _ _ (crS (a.map vD) (b.map vD) m i) = some (RV.d (DV.int Go.IntKind.i64 (Plain.cmpV { k := v.1, n := v.2, s := v.3 } { k := w.1, n := w.2, s := w.3 })), [], _, _)) (by refine ⟨?_, ?_, trivial⟩ <;> (first | exact bd_map (hlt h13).1 | exact bd_map (hlt h13).2)) (by refine ⟨le_bool h13, ?_, ?_, le_bool h25, trivial⟩ <;> (first | exact ov_val (hlt h13).1 (hv (hlt h13).1) | exact ov_val (hlt h13).2 (hw (hlt h13).2) | exact ov_succ (by omega))) ⟨by congr 2; first | (have e := hstep h13; have e2 : cmpV v w ≠ 0 := (by simpa using h25); rw [if_neg e2] at e; exact e) | (have e := hend h13; rw [hla, hlb] at h33; unfold cmpI at e; rw [← e]; first | (rw [if_pos (of_decide_eq_true h33)]; done) | (rw [hla, hlb] at h39; rw [if_neg (of_decide_eq_false h33), if_pos (of_decide_eq_true h39)]; done) | (rw [hla, hlb] at h39; rw [if_neg (of_decide_eq_false h33), if_neg (of_decide_eq_false h39)])), rfl⟩
      · skip
        refine WK.segA ok 1000 0 [(17, RV.iptr (DV.agg [DV.int Go.IntKind.u8 v.1, DV.int Go.IntKind.i64 v.2, DV.str v.3]) 0), (21, RV.iptr (DV.agg [DV.int Go.IntKind.u8 w.1, DV.int Go.IntKind.i64 w.2, DV.str w.3]) 0), (27, RV.d (DV.int Go.IntKind.i64 (Nat.cast (R := Int) (i + 1)))), (13, RV.d (DV.bool true)), (25, RV.d (DV.bool false))] [] [0, 1, 11, 12] [decide (0 ≤ (Nat.cast (R := Int) i) ∧ (Nat.cast (R := Int) i) < (Nat.cast (R := Int) (a.map vD).length)), decide (0 ≤ (Nat.cast (R := Int) i) ∧ (Nat.cast (R := Int) i) < (Nat.cast (R := Int) (b.map vD).length))] [(RV.d (DV.bool (decide ((Nat.cast (R := Int) i) < (Nat.cast (R := Int) m)))), RV.d (DV.bool true)), (RV.iptr ((a.map vD).getD (Nat.cast (R := Int) i).toNat DV.nilp) 0, RV.iptr (DV.agg [DV.int Go.IntKind.u8 v.1, DV.int Go.IntKind.i64 v.2, DV.str v.3]) 0), (RV.iptr ((b.map vD).getD (Nat.cast (R := Int) i).toNat DV.nilp) 0, RV.iptr (DV.agg [DV.int Go.IntKind.u8 w.1, DV.int Go.IntKind.i64 w.2, DV.str w.3]) 0), (RV.d (DV.bool (Plain.cmpV { k := v.1, n := v.2, s := v.3 } { k := w.1, n := w.2, s := w.3 } != 0)), RV.d (DV.bool false)), (RV.d (DV.int Go.IntKind.i64 (Go.IntKind.i64.wrap ((Nat.cast (R := Int) i) + 1))), RV.d (DV.int Go.IntKind.i64 (Nat.cast (R := Int) (i + 1))))] rfl (by kernel_rfl : runSegA (cfT t1) 1000 0 _ _ _ _ (crS (a.map vD) (b.map vD) m i) = some (stackAt crC 0, crS (a.map vD) (b.map vD) m (i + 1), _, _)) (by refine ⟨?_, ?_, trivial⟩ <;> (first | exact bd_map (hlt h13).1 | exact bd_map (hlt h13).2)) (by refine ⟨le_bool h13, ?_, ?_, le_bool h25, ?_, trivial⟩ <;> (first | exact ov_val (hlt h13).1 (hv (hlt h13).1) | exact ov_val (hlt h13).2 (hw (hlt h13).2) | exact ov_succ (by omega))) ?_
        refine ih (i + 1) ⟨by have := of_decide_eq_true h13; omega, ?_⟩ (by have := of_decide_eq_true h13; omega)
        have e := hstep h13
        have e2 : cmpV v w = 0 := (by simpa using h25)
        rwa [if_pos e2] at e
    · skip
      rcases Bool.eq_false_or_eq_true (decide ((Nat.cast (R := Int) (a.map vD).length) < (Nat.cast (R := Int) (b.map vD).length)) : Bool) with h33 | h33
      · skip
        exact WK.fin ok 1000 0 [(17, RV.iptr (DV.agg [DV.int Go.IntKind.u8 v.1, DV.int Go.IntKind.i64 v.2, DV.str v.3]) 0), (21, RV.iptr (DV.agg [DV.int Go.IntKind.u8 w.1, DV.int Go.IntKind.i64 w.2, DV.str w.3]) 0), (27, RV.d (DV.int Go.IntKind.i64 (Nat.cast (R := Int) (i + 1)))), (13, RV.d (DV.bool false)), (33, RV.d (DV.bool true))] [] [(RV.d (DV.bool (decide ((Nat.cast (R := Int) i) < (Nat.cast (R := Int) m)))), RV.d (DV.bool false)), (RV.d (DV.bool (decide ((Nat.cast (R := Int) (a.map vD).length) < (Nat.cast (R := Int) (b.map vD).length)))), RV.d (DV.bool true))] rfl (by kernel_rfl : runEnd (cfT t1) true _ 1000 0 _ _ (crS (a.map vD) (b.map vD) m i) = some (RV.d (DV.int Go.IntKind.i64 (-1)), [], _, _)) trivial ⟨le_bool h13, le_bool h33, trivial⟩ ⟨by congr 2; first | (have e := hstep h13; have e2 : cmpV v w ≠ 0 := (by simpa using h25); rw [if_neg e2] at e; exact e) | (have e := hend h13; rw [hla, hlb] at h33; unfold cmpI at e; rw [← e]; first | (rw [if_pos (of_decide_eq_true h33)]; done) | (rw [hla, hlb] at h39; rw [if_neg (of_decide_eq_false h33), if_pos (of_decide_eq_true h39)]; done) | (rw [hla, hlb] at h39; rw [if_neg (of_decide_eq_false h33), if_neg (of_decide_eq_false h39)])), rfl⟩
      · skip
        rcases Bool.eq_false_or_eq_true (decide ((Nat.cast (R := Int) (b.map vD).length) < (Nat.cast (R := Int) (a.map vD).length)) : Bool) with h39 | h39
        · skip
          exact WK.fin ok 1000 0 [(17, RV.iptr (DV.agg [DV.int Go.IntKind.u8 v.1, DV.int Go.IntKind.i64 v.2, DV.str v.3]) 0), (21, RV.iptr (DV.agg [DV.int Go.IntKind.u8 w.1, DV.int Go.IntKind.i64 w.2, DV.str w.3]) 0), (27, RV.d (DV.int Go.IntKind.i64 (Nat.cast (R := Int) (i + 1)))), (13, RV.d (DV.bool false)), (33, RV.d (DV.bool false)), (39, RV.d (DV.bool true))] [] [(RV.d (DV.bool (decide ((Nat.cast (R := Int) i) < (Nat.cast (R := Int) m)))), RV.d (DV.bool false)), (RV.d (DV.bool (decide ((Nat.cast (R := Int) (a.map vD).length) < (Nat.cast (R := Int) (b.map vD).length)))), RV.d (DV.bool false)), (RV.d (DV.bool (decide ((Nat.cast (R := Int) (b.map vD).length) < (Nat.cast (R := Int) (a.map vD).length)))), RV.d (DV.bool true))] rfl (by kernel_rfl : runEnd (cfT t1) true _ 1000 0 _ _ (crS (a.map vD) (b.map vD) m i) = some (RV.d (DV.int Go.IntKind.i64 (1)), [], _, _)) trivial ⟨le_bool h13, le_bool h33, le_bool h39, trivial⟩ ⟨by congr 2; first | (have e := hstep h13; have e2 : cmpV v w ≠ 0 := (by simpa using h25); rw [if_neg e2] at e; exact e) | (have e := hend h13; rw [hla, hlb] at h33; unfold cmpI at e; rw [← e]; first | (rw [if_pos (of_decide_eq_true h33)]; done) | (rw [hla, hlb] at h39; rw [if_neg (of_decide_eq_false h33), if_pos (of_decide_eq_true h39)]; done) | (rw [hla, hlb] at h39; rw [if_neg (of_decide_eq_false h33), if_neg (of_decide_eq_false h39)])), rfl⟩
        · skip
          exact WK.fin ok 1000 0 [(17, RV.iptr (DV.agg [DV.int Go.IntKind.u8 v.1, DV.int Go.IntKind.i64 v.2, DV.str v.3]) 0), (21, RV.iptr (DV.agg [DV.int Go.IntKind.u8 w.1, DV.int Go.IntKind.i64 w.2, DV.str w.3]) 0), (27, RV.d (DV.int Go.IntKind.i64 (Nat.cast (R := Int) (i + 1)))), (13, RV.d (DV.bool false)), (33, RV.d (DV.bool false)), (39, RV.d (DV.bool false))] [] [(RV.d (DV.bool (decide ((Nat.cast (R := Int) i) < (Nat.cast (R := Int) m)))), RV.d (DV.bool false)), (RV.d (DV.bool (decide ((Nat.cast (R := Int) (a.map vD).length) < (Nat.cast (R := Int) (b.map vD).length)))), RV.d (DV.bool false)), (RV.d (DV.bool (decide ((Nat.cast (R := Int) (b.map vD).length) < (Nat.cast (R := Int) (a.map vD).length)))), RV.d (DV.bool false))] rfl (by kernel_rfl : runEnd (cfT t1) true _ 1000 0 _ _ (crS (a.map vD) (b.map vD) m i) = some (RV.d (DV.int Go.IntKind.i64 (0)), [], _, _)) trivial ⟨le_bool h13, le_bool h33, le_bool h39, trivial⟩ ⟨by congr 2; first | (have e := hstep h13; have e2 : cmpV v w ≠ 0 := (by simpa using h25); rw [if_neg e2] at e; exact e) | (have e := hend h13; rw [hla, hlb] at h33; unfold cmpI at e; rw [← e]; first | (rw [if_pos (of_decide_eq_true h33)]; done) | (rw [hla, hlb] at h39; rw [if_neg (of_decide_eq_false h33), if_pos (of_decide_eq_true h39)]; done) | (rw [hla, hlb] at h39; rw [if_neg (of_decide_eq_false h33), if_neg (of_decide_eq_false h39)])), rfl⟩
  refine WK.segA ok 1000 0 [(11, RV.d (DV.int Go.IntKind.i64 (Nat.cast (R := Int) m)))] [] [0, 1, 11, 12] [] [(RV.d (DV.int Go.IntKind.i64 (if (Nat.cast (R := Int) (b.map vD).length) < (Nat.cast (R := Int) (a.map vD).length) then (Nat.cast (R := Int) (b.map vD).length) else (Nat.cast (R := Int) (a.map vD).length))), RV.d (DV.int Go.IntKind.i64 (Nat.cast (R := Int) m)))] rfl (by kernel_rfl : runSegA (cfT t1) 1000 0 _ _ _ _ (ini 40 [.d (rD a), .d (rD b)] []) = some (stackAt crC 0, crS (a.map vD) (b.map vD) m 0, _, _)) trivial ⟨(by (refine .of_eq ?_; congr 2; simp only [List.length_map]; split <;> omega)), trivial⟩ ?_
  exact hloop
end Go.Proofs.Ytljfolepmkcjlaa
