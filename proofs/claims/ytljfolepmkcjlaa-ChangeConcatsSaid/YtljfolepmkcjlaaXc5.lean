/-
  Texts that the claim leans on, one behind the other, part 5.
-/
import Derived.Test.YtljfolepmkcjlaaXc4

/-
  The reference's orders and rows: numbers, texts, Compare, Rows, Order, row.
-/
namespace Go.Proofs.Ytljfolepmkcjlaa
open Go.RowKit Plain Am IntWalk
set_option maxRecDepth 100000
set_option linter.unusedVariables false
set_option linter.unusedSimpArgs false

theorem nu_c (a b : Int) : C Try.prog 97 [.d (.int .i64 a), .d (.int .i64 b)] [] (fun r o => r = .d (.int .i64 (cmpI a b)) ∧ o = []) := by
  have ok := cfT_ok (l := []) .nil
  refine C_of_run (fn := Try.f97) (body := nuC) true (by kernel_rfl) (by kernel_rfl) (by kernel_rfl) ?_
  rcases Bool.eq_false_or_eq_true (decide (a < b) : Bool) with h7 | h7
  · skip
    exact WK.fin ok 1000 0 [(7, RV.d (DV.bool true))] [] [(RV.d (DV.bool (decide (a < b))), RV.d (DV.bool true))] rfl (by kernel_rfl : runEnd (cfT []) true _ 1000 0 _ _ (ini 11 [.d (.int .i64 a), .d (.int .i64 b)] []) = some (RV.d (DV.int Go.IntKind.i64 (-1)), [], _, _)) trivial ⟨le_bool h7, trivial⟩ ⟨by unfold cmpI; first | rw [if_pos (of_decide_eq_true h7)] | rw [if_neg (of_decide_eq_false h7), if_pos (of_decide_eq_true h10)] | rw [if_neg (of_decide_eq_false h7), if_neg (of_decide_eq_false h10)], rfl⟩
  · skip
    rcases Bool.eq_false_or_eq_true (decide (b < a) : Bool) with h10 | h10
    · skip
      exact WK.fin ok 1000 0 [(7, RV.d (DV.bool false)), (10, RV.d (DV.bool true))] [] [(RV.d (DV.bool (decide (a < b))), RV.d (DV.bool false)), (RV.d (DV.bool (decide (b < a))), RV.d (DV.bool true))] rfl (by kernel_rfl : runEnd (cfT []) true _ 1000 0 _ _ (ini 11 [.d (.int .i64 a), .d (.int .i64 b)] []) = some (RV.d (DV.int Go.IntKind.i64 (1)), [], _, _)) trivial ⟨le_bool h7, le_bool h10, trivial⟩ ⟨by unfold cmpI; first | rw [if_pos (of_decide_eq_true h7)] | rw [if_neg (of_decide_eq_false h7), if_pos (of_decide_eq_true h10)] | rw [if_neg (of_decide_eq_false h7), if_neg (of_decide_eq_false h10)], rfl⟩
    · skip
      exact WK.fin ok 1000 0 [(7, RV.d (DV.bool false)), (10, RV.d (DV.bool false))] [] [(RV.d (DV.bool (decide (a < b))), RV.d (DV.bool false)), (RV.d (DV.bool (decide (b < a))), RV.d (DV.bool false))] rfl (by kernel_rfl : runEnd (cfT []) true _ 1000 0 _ _ (ini 11 [.d (.int .i64 a), .d (.int .i64 b)] []) = some (RV.d (DV.int Go.IntKind.i64 (0)), [], _, _)) trivial ⟨le_bool h7, le_bool h10, trivial⟩ ⟨by unfold cmpI; first | rw [if_pos (of_decide_eq_true h7)] | rw [if_neg (of_decide_eq_false h7), if_pos (of_decide_eq_true h10)] | rw [if_neg (of_decide_eq_false h7), if_neg (of_decide_eq_false h10)], rfl⟩
theorem nu_ent : EntOk Try.prog 97 (e2 nuG) := by
  refine e2_ok fun x x2 y c hg hc => ?_
  unfold nuG at hg
  split at hg
  · simp only [Option.some.injEq, Prod.mk.injEq] at hg
    obtain ⟨rfl, rfl⟩ := hg
    exact nu_c _ _
  · cases hg
noncomputable def t5 : List (Nat × Ent) := [(97, e2 nuG)]
theorem t5_ok : EntsOk Try.prog t5 := .cons nu_ent .nil

theorem at_u8 (l : Bs) (i : Nat) : ∃ c, ∀ h : i < l.length, l[i] = c := by
  by_cases h : i < l.length
  · exact ⟨l[i], fun _ => rfl⟩
  · exact ⟨0, fun h' => absurd h' h⟩
theorem cmpS_drop {s t : Bs} {i : Nat} (hs : i < s.length) (ht : i < t.length) : cmpS (s.drop i) (t.drop i) = if s[i].toNat ≠ t[i].toNat then cmpI s[i].toNat t[i].toNat else cmpS (s.drop (i + 1)) (t.drop (i + 1)) := by
  rw [List.drop_eq_getElem_cons hs, List.drop_eq_getElem_cons ht]
  simp only [cmpS, Go.Lib.compareBytes, UInt8.lt_iff_toNat_lt, cmpI]
  by_cases h1 : s[i].toNat < t[i].toNat
  · rw [if_pos h1, if_pos (by omega), if_pos (by omega)]
  · by_cases h2 : t[i].toNat < s[i].toNat
    · rw [if_neg h1, if_pos h2, if_pos (by omega), if_neg (by omega), if_pos (by omega)]
    · rw [if_neg h1, if_neg h2, if_neg (by omega)]
theorem cmpS_end {a b : Bs} {i : Nat} (h : a.length ≤ i ∨ b.length ≤ i) (ha : i ≤ a.length) (hb : i ≤ b.length) : cmpS (a.drop i) (b.drop i) = cmpI a.length b.length := by
  unfold cmpI
  rcases h with h | h
  · rw [List.drop_eq_nil_of_le h]
    by_cases h2 : b.length ≤ i
    · rw [List.drop_eq_nil_of_le h2, if_neg (by omega), if_neg (by omega)]; rfl
    · rw [List.drop_eq_getElem_cons (by omega), if_pos (by omega)]; rfl
  · rw [List.drop_eq_nil_of_le h]
    by_cases h2 : a.length ≤ i
    · rw [List.drop_eq_nil_of_le h2, if_neg (by omega), if_neg (by omega)]; rfl
    · rw [List.drop_eq_getElem_cons (by omega), if_neg (by omega), if_pos (by omega)]; rfl
theorem ov_u8 {s : Bs} {i : Nat} {c : UInt8} (h : i < s.length) (hc : s[i] = c) : RVle (.d (.int .u8 (Nat.cast (R := Int) (List.getD s (Nat.cast (R := Int) i).toNat 0).toNat))) (.d (.int .u8 (Nat.cast (R := Int) c.toNat))) := .of_eq (by
  rw [Int.toNat_natCast, List.getD_eq_getElem?_getD, List.getElem?_eq_getElem h, Option.getD_some, hc])
theorem ov_w8 (c : UInt8) : RVle (.d (.int .i64 (IntKind.i64.wrap (Nat.cast (R := Int) c.toNat)))) (.d (.int .i64 (Nat.cast (R := Int) c.toNat))) := .of_eq (by
  have := c.toNat_lt
  rw [i64_in _ (by omega)])
theorem tx_c (s t : Bs) (hs : s.length ≤ 1000000) (ht : t.length ≤ 1000000) : C Try.prog 98 [.d (.str s), .d (.str t)] [] (fun r o => r = .d (.int .i64 (cmpS s t)) ∧ o = []) := by
  have ok := cfT_ok t5_ok
  refine C_of_run (fn := Try.f98) (body := txC) true (by kernel_rfl) (by kernel_rfl) (by kernel_rfl) ?_
  have hloop : WK Try.prog 0 (stackAt txC 0) (txS s t 0).den (Ends (Try.f98.results.toList) (.d (.int .i64 (cmpS s t)))) := by
    refine WK.rec' (fun i => txS s t i) (fun i => (i ≤ s.length ∧ i ≤ t.length) ∧ cmpS (s.drop i) (t.drop i) = cmpS s t) (fun i => s.length - i) ?_ 0 ⟨⟨Nat.zero_le _, Nat.zero_le _⟩, rfl⟩
    rintro i ⟨⟨hi, hi2⟩, hc⟩ ih
    obtain ⟨c, hcv⟩ := at_u8 s i
    obtain ⟨d, hdv⟩ := at_u8 t i
    by_cases h9 : i < s.length
    · have hlt : decide ((Nat.cast (R := Int) i) < (Nat.cast (R := Int) (List.length t))) = true → i < t.length := fun h => by have := of_decide_eq_true h; omega
      have hge : decide ((Nat.cast (R := Int) i) < (Nat.cast (R := Int) (List.length t))) = false → cmpI s.length t.length = cmpS s t := fun h => by
        have := of_decide_eq_false h
        rw [← hc, cmpS_end (.inr (by omega)) hi hi2]
      have hstep : i < t.length → cmpS s t = if c.toNat ≠ d.toNat then cmpI c.toNat d.toNat else cmpS (s.drop (i + 1)) (t.drop (i + 1)) := fun h => by
        rw [← hc, cmpS_drop h9 h, hcv h9, hdv h]
      rcases Bool.eq_false_or_eq_true (decide ((Nat.cast (R := Int) i) < (Nat.cast (R := Int) (List.length t))) : Bool) with h15 | h15
      · skip
        rcases Bool.eq_false_or_eq_true ((c.toNat : Int) != (d.toNat : Int) : Bool) with h24 | h24
        · skip
          exact WK.fin ok 1000 0 [(9, RV.d (DV.bool true)), (20, RV.d (DV.int Go.IntKind.u8 (c.toNat : Int))), (23, RV.d (DV.int Go.IntKind.u8 (d.toNat : Int))), (17, RV.d (DV.int Go.IntKind.i64 (Nat.cast (R := Int) (i + 1)))), (27, RV.d (DV.int Go.IntKind.u8 (c.toNat : Int))), (31, RV.d (DV.int Go.IntKind.u8 (d.toNat : Int))), (28, RV.d (DV.int Go.IntKind.i64 (c.toNat : Int))), (32, RV.d (DV.int Go.IntKind.i64 (d.toNat : Int))), (15, RV.d (DV.bool true)), (24, RV.d (DV.bool true))] [decide (0 ≤ (Nat.cast (R := Int) i) ∧ (Nat.cast (R := Int) i) < (Nat.cast (R := Int) (List.length s))), decide (0 ≤ (Nat.cast (R := Int) i) ∧ (Nat.cast (R := Int) i) < (Nat.cast (R := Int) (List.length t))), decide (0 ≤ (Nat.cast (R := Int) i) ∧ (Nat.cast (R := Int) i) < (Nat.cast (R := Int) (List.length s))), decide (0 ≤ (Nat.cast (R := Int) i) ∧ (Nat.cast (R := Int) i) < (Nat.cast (R := Int) (List.length t)))] [(RV.d (DV.bool (decide ((Nat.cast (R := Int) i) < (Nat.cast (R := Int) (List.length s))))), RV.d (DV.bool true)), (RV.d (DV.bool (decide ((Nat.cast (R := Int) i) < (Nat.cast (R := Int) (List.length t))))), RV.d (DV.bool true)), (RV.d (DV.int Go.IntKind.u8 (Nat.cast (R := Int) (List.getD s (Nat.cast (R := Int) i).toNat (0 : UInt8)).toNat)), RV.d (DV.int Go.IntKind.u8 (c.toNat : Int))), (RV.d (DV.int Go.IntKind.u8 (Nat.cast (R := Int) (List.getD t (Nat.cast (R := Int) i).toNat (0 : UInt8)).toNat)), RV.d (DV.int Go.IntKind.u8 (d.toNat : Int))), (RV.d (DV.bool ((c.toNat : Int) != (d.toNat : Int))), RV.d (DV.bool true)), (RV.d (DV.int Go.IntKind.u8 (Nat.cast (R := Int) (List.getD s (Nat.cast (R := Int) i).toNat (0 : UInt8)).toNat)), RV.d (DV.int Go.IntKind.u8 (c.toNat : Int))), (RV.d (DV.int Go.IntKind.i64 (Go.IntKind.i64.wrap (c.toNat : Int))), RV.d (DV.int Go.IntKind.i64 (c.toNat : Int))), (RV.d (DV.int Go.IntKind.u8 (Nat.cast (R := Int) (List.getD t (Nat.cast (R := Int) i).toNat (0 : UInt8)).toNat)), RV.d (DV.int Go.IntKind.u8 (d.toNat : Int))), (RV.d (DV.int Go.IntKind.i64 (Go.IntKind.i64.wrap (d.toNat : Int))), RV.d (DV.int Go.IntKind.i64 (d.toNat : Int)))] rfl (by kernel_rfl : runEnd (cfT t5) true _ 1000 0 _ _ (txS s t i) = some (RV.d (DV.int Go.IntKind.i64 (Plain.cmpI (c.toNat : Int) (d.toNat : Int))), [], _, _)) (by refine ⟨?_, ?_, ?_, ?_, trivial⟩ <;> (have := of_decide_eq_true h15; exact decide_eq_true (by omega))) (by refine ⟨?_, le_bool h15, ?_, ?_, le_bool h24, ?_, ?_, ?_, ?_, trivial⟩ <;> (first | exact le_bool (decide_eq_true (by omega)) | exact ov_u8 h9 (hcv h9) | exact ov_u8 (hlt h15) (hdv (hlt h15)) | exact ov_w8 _ | exact ov_succ (by omega))) ⟨by first | (rw [hge h15]; done) | (have e0 : (c.toNat : Int) ≠ (d.toNat : Int) := (by simpa using h24); have e : c.toNat ≠ d.toNat := (by omega); rw [hstep (hlt h15), if_pos e]), rfl⟩
        · skip
          refine WK.segA ok 1000 0 [(9, RV.d (DV.bool true)), (20, RV.d (DV.int Go.IntKind.u8 (c.toNat : Int))), (23, RV.d (DV.int Go.IntKind.u8 (d.toNat : Int))), (17, RV.d (DV.int Go.IntKind.i64 (Nat.cast (R := Int) (i + 1)))), (27, RV.d (DV.int Go.IntKind.u8 (c.toNat : Int))), (31, RV.d (DV.int Go.IntKind.u8 (d.toNat : Int))), (28, RV.d (DV.int Go.IntKind.i64 (c.toNat : Int))), (32, RV.d (DV.int Go.IntKind.i64 (d.toNat : Int))), (15, RV.d (DV.bool true)), (24, RV.d (DV.bool false))] [] [0, 1, 5] [decide (0 ≤ (Nat.cast (R := Int) i) ∧ (Nat.cast (R := Int) i) < (Nat.cast (R := Int) (List.length s))), decide (0 ≤ (Nat.cast (R := Int) i) ∧ (Nat.cast (R := Int) i) < (Nat.cast (R := Int) (List.length t)))] [(RV.d (DV.bool (decide ((Nat.cast (R := Int) i) < (Nat.cast (R := Int) (List.length s))))), RV.d (DV.bool true)), (RV.d (DV.bool (decide ((Nat.cast (R := Int) i) < (Nat.cast (R := Int) (List.length t))))), RV.d (DV.bool true)), (RV.d (DV.int Go.IntKind.u8 (Nat.cast (R := Int) (List.getD s (Nat.cast (R := Int) i).toNat (0 : UInt8)).toNat)), RV.d (DV.int Go.IntKind.u8 (c.toNat : Int))), (RV.d (DV.int Go.IntKind.u8 (Nat.cast (R := Int) (List.getD t (Nat.cast (R := Int) i).toNat (0 : UInt8)).toNat)), RV.d (DV.int Go.IntKind.u8 (d.toNat : Int))), (RV.d (DV.bool ((c.toNat : Int) != (d.toNat : Int))), RV.d (DV.bool false)), (RV.d (DV.int Go.IntKind.i64 (Go.IntKind.i64.wrap ((Nat.cast (R := Int) i) + 1))), RV.d (DV.int Go.IntKind.i64 (Nat.cast (R := Int) (i + 1))))] rfl (by kernel_rfl : runSegA (cfT t5) 1000 0 _ _ _ _ (txS s t i) = some (stackAt txC 0, txS s t (i + 1), _, _)) (by refine ⟨?_, ?_, trivial⟩ <;> (have := of_decide_eq_true h15; exact decide_eq_true (by omega))) (by refine ⟨?_, le_bool h15, ?_, ?_, le_bool h24, ?_, trivial⟩ <;> (first | exact le_bool (decide_eq_true (by omega)) | exact ov_u8 h9 (hcv h9) | exact ov_u8 (hlt h15) (hdv (hlt h15)) | exact ov_w8 _ | exact ov_succ (by omega))) ?_
          have e0 : (c.toNat : Int) = (d.toNat : Int) := (by simpa using h24)
          have e : ¬ c.toNat ≠ d.toNat := (by omega)
          exact ih (i + 1) ⟨⟨h9, hlt h15⟩, by rw [hstep (hlt h15), if_neg e]⟩ (by omega)
      · skip
        exact WK.fin ok 1000 0 [(9, RV.d (DV.bool true)), (20, RV.d (DV.int Go.IntKind.u8 (c.toNat : Int))), (23, RV.d (DV.int Go.IntKind.u8 (d.toNat : Int))), (17, RV.d (DV.int Go.IntKind.i64 (Nat.cast (R := Int) (i + 1)))), (27, RV.d (DV.int Go.IntKind.u8 (c.toNat : Int))), (31, RV.d (DV.int Go.IntKind.u8 (d.toNat : Int))), (28, RV.d (DV.int Go.IntKind.i64 (c.toNat : Int))), (32, RV.d (DV.int Go.IntKind.i64 (d.toNat : Int))), (15, RV.d (DV.bool false))] [] [(RV.d (DV.bool (decide ((Nat.cast (R := Int) i) < (Nat.cast (R := Int) (List.length s))))), RV.d (DV.bool true)), (RV.d (DV.bool (decide ((Nat.cast (R := Int) i) < (Nat.cast (R := Int) (List.length t))))), RV.d (DV.bool false))] rfl (by kernel_rfl : runEnd (cfT t5) true _ 1000 0 _ _ (txS s t i) = some (RV.d (DV.int Go.IntKind.i64 (Plain.cmpI (Nat.cast (R := Int) (List.length s)) (Nat.cast (R := Int) (List.length t)))), [], _, _)) trivial ⟨(by first | exact le_bool (decide_eq_true (by omega)) | exact ov_u8 h9 (hcv h9) | exact ov_u8 (hlt h15) (hdv (hlt h15)) | exact ov_w8 _ | exact ov_succ (by omega)), le_bool h15, trivial⟩ ⟨by first | (rw [hge h15]; done) | (have e0 : (c.toNat : Int) ≠ (d.toNat : Int) := (by simpa using h24); have e : c.toNat ≠ d.toNat := (by omega); rw [hstep (hlt h15), if_pos e]), rfl⟩
    · have e := cmpS_end (.inl (by omega)) hi hi2
      rw [hc] at e
      exact WK.fin ok 1000 0 [(9, RV.d (DV.bool false))] [] [(RV.d (DV.bool (decide ((Nat.cast (R := Int) i) < (Nat.cast (R := Int) (List.length s))))), RV.d (DV.bool false))] rfl (by kernel_rfl : runEnd (cfT t5) true _ 1000 0 _ _ (txS s t i) = some (RV.d (DV.int Go.IntKind.i64 (Plain.cmpI (Nat.cast (R := Int) (List.length s)) (Nat.cast (R := Int) (List.length t)))), [], _, _)) trivial ⟨(by exact le_bool (decide_eq_false (by omega))), trivial⟩ ⟨by rw [e], rfl⟩
  refine WK.segA ok 1000 0 [] [] [0, 1, 5] [] [] rfl (by kernel_rfl : runSegA (cfT t5) 1000 0 _ _ _ _ (ini 39 [.d (.str s), .d (.str t)] []) = some (stackAt txC 0, txS s t 0, _, _)) trivial trivial ?_
  exact hloop
theorem tx_ent : EntOk Try.prog 98 (e2 txG) := by
  refine e2_ok fun x x2 y c hg hc => ?_
  unfold txG at hg
  split at hg
  · rename_i s t
    simp only [Option.some.injEq, Prod.mk.injEq] at hg
    obtain ⟨rfl, rfl⟩ := hg
    exact tx_c _ _ (by simpa using hc (decide (s.length ≤ 1000000)) (by simp)) (by simpa using hc (decide (t.length ≤ 1000000)) (by simp))
  · cases hg
noncomputable def t6 : List (Nat × Ent) := (98, e2 txG) :: t5
theorem t6_ok : EntsOk Try.prog t6 := .cons tx_ent t5_ok

theorem rv_c (k n : Int) (s : Bs) (k2 n2 : Int) (s2 : Bs) (w1 : 0 ≤ k ∧ k ≤ 255) (w2 : 0 ≤ k2 ∧ k2 ≤ 255) (hs : s.length ≤ 1000000) (ht : s2.length ≤ 1000000) : C Try.prog 83 [.d (vv k n s), .d (vv k2 n2 s2)] [] (fun r o => r = .d (.int .i64 (cmpV ⟨k, n, s⟩ ⟨k2, n2, s2⟩)) ∧ o = []) := by
  have ok := cfT_ok t6_ok
  refine C_of_run (fn := Try.f83) (body := rvC) true (by kernel_rfl) (by kernel_rfl) (by kernel_rfl) ?_
  rcases Bool.eq_false_or_eq_true (k != k2 : Bool) with h9 | h9
  · skip
    exact WK.fin ok 1000 0 [(12, RV.d (DV.int Go.IntKind.i64 k)), (15, RV.d (DV.int Go.IntKind.i64 k2)), (9, RV.d (DV.bool true))] [] [(RV.d (DV.bool (k != k2)), RV.d (DV.bool true)), (RV.d (DV.int Go.IntKind.i64 (Go.IntKind.i64.wrap k)), RV.d (DV.int Go.IntKind.i64 k)), (RV.d (DV.int Go.IntKind.i64 (Go.IntKind.i64.wrap k2)), RV.d (DV.int Go.IntKind.i64 k2))] rfl (by kernel_rfl : runEnd (cfT t6) true _ 1000 0 _ _ (ini 34 [.d (vv k n s), .d (vv k2 n2 s2)] []) = some (RV.d (DV.int Go.IntKind.i64 (Plain.cmpI k k2)), [], _, _)) trivial (by refine ⟨le_bool h9, ?_, ?_, trivial⟩ <;> ((refine .of_eq ?_; rw [i64_in _ (by omega)]))) ⟨by unfold cmpV; first | (have e : k ≠ k2 := (by simpa using h9); congr 2; simp only; unfold cmpI; by_cases h : k < k2; (rw [if_pos h, if_pos h]); (rw [if_neg h, if_neg h, if_pos (by omega), if_pos (by omega)])) | (have e : k = k2 := (by simpa using h9); subst e; rw [if_neg (by simp), if_neg (by simp)]; simp only; first | (have e1 : k = 1 := (by simpa using h20); rw [if_pos e1]; done) | (have e1 : k ≠ 1 := (by simpa using h20); rw [if_neg e1]; first | (have e2 : k = 2 := (by simpa using h27); rw [if_pos (.inl e2)]; done) | (have e2 : k ≠ 2 := (by simpa using h27); first | (have e3 : k = 3 := (by simpa using h28); rw [if_pos (.inr e3)]; done) | (have e3 : k ≠ 3 := (by simpa using h28); rw [if_neg (by omega)])))), rfl⟩
  · skip
    rcases Bool.eq_false_or_eq_true (k == 1 : Bool) with h20 | h20
    · skip
      exact WK.fin ok 1000 0 [(12, RV.d (DV.int Go.IntKind.i64 k)), (15, RV.d (DV.int Go.IntKind.i64 k2)), (9, RV.d (DV.bool false)), (20, RV.d (DV.bool true))] [] [(RV.d (DV.bool (k != k2)), RV.d (DV.bool false)), (RV.d (DV.bool (k == 1)), RV.d (DV.bool true))] rfl (by kernel_rfl : runEnd (cfT t6) true _ 1000 0 _ _ (ini 34 [.d (vv k n s), .d (vv k2 n2 s2)] []) = some (RV.d (DV.int Go.IntKind.i64 (Plain.cmpI n n2)), [], _, _)) trivial ⟨le_bool h9, le_bool h20, trivial⟩ ⟨by unfold cmpV; first | (have e : k ≠ k2 := (by simpa using h9); congr 2; simp only; unfold cmpI; by_cases h : k < k2; (rw [if_pos h, if_pos h]); (rw [if_neg h, if_neg h, if_pos (by omega), if_pos (by omega)])) | (have e : k = k2 := (by simpa using h9); subst e; rw [if_neg (by simp), if_neg (by simp)]; simp only; first | (have e1 : k = 1 := (by simpa using h20); rw [if_pos e1]; done) | (have e1 : k ≠ 1 := (by simpa using h20); rw [if_neg e1]; first | (have e2 : k = 2 := (by simpa using h27); rw [if_pos (.inl e2)]; done) | (have e2 : k ≠ 2 := (by simpa using h27); first | (have e3 : k = 3 := (by simpa using h28); rw [if_pos (.inr e3)]; done) | (have e3 : k ≠ 3 := (by simpa using h28); rw [if_neg (by omega)])))), rfl⟩
    · skip
      rcases Bool.eq_false_or_eq_true (k == 2 : Bool) with h27 | h27
      · skip
        exact WK.fin ok 1000 0 [(12, RV.d (DV.int Go.IntKind.i64 k)), (15, RV.d (DV.int Go.IntKind.i64 k2)), (9, RV.d (DV.bool false)), (20, RV.d (DV.bool false)), (27, RV.d (DV.bool true))] [decide (List.length s ≤ 1000000), decide (List.length s2 ≤ 1000000)] [(RV.d (DV.bool (k != k2)), RV.d (DV.bool false)), (RV.d (DV.bool (k == 1)), RV.d (DV.bool false)), (RV.d (DV.bool (k == 2)), RV.d (DV.bool true))] rfl (by kernel_rfl : runEnd (cfT t6) true _ 1000 0 _ _ (ini 34 [.d (vv k n s), .d (vv k2 n2 s2)] []) = some (RV.d (DV.int Go.IntKind.i64 (Plain.cmpS s s2)), [], _, _)) (by refine ⟨?_, ?_, trivial⟩ <;> (exact decide_eq_true (by assumption))) ⟨le_bool h9, le_bool h20, le_bool h27, trivial⟩ ⟨by unfold cmpV; first | (have e : k ≠ k2 := (by simpa using h9); congr 2; simp only; unfold cmpI; by_cases h : k < k2; (rw [if_pos h, if_pos h]); (rw [if_neg h, if_neg h, if_pos (by omega), if_pos (by omega)])) | (have e : k = k2 := (by simpa using h9); subst e; rw [if_neg (by simp), if_neg (by simp)]; simp only; first | (have e1 : k = 1 := (by simpa using h20); rw [if_pos e1]; done) | (have e1 : k ≠ 1 := (by simpa using h20); rw [if_neg e1]; first | (have e2 : k = 2 := (by simpa using h27); rw [if_pos (.inl e2)]; done) | (have e2 : k ≠ 2 := (by simpa using h27); first | (have e3 : k = 3 := (by simpa using h28); rw [if_pos (.inr e3)]; done) | (have e3 : k ≠ 3 := (by simpa using h28); rw [if_neg (by omega)])))), rfl⟩
      · skip
        rcases Bool.eq_false_or_eq_true (k == 3 : Bool) with h28 | h28
        · skip
          exact WK.fin ok 1000 0 [(12, RV.d (DV.int Go.IntKind.i64 k)), (15, RV.d (DV.int Go.IntKind.i64 k2)), (9, RV.d (DV.bool false)), (20, RV.d (DV.bool false)), (27, RV.d (DV.bool false)), (28, RV.d (DV.bool true))] [decide (List.length s ≤ 1000000), decide (List.length s2 ≤ 1000000)] [(RV.d (DV.bool (k != k2)), RV.d (DV.bool false)), (RV.d (DV.bool (k == 1)), RV.d (DV.bool false)), (RV.d (DV.bool (k == 2)), RV.d (DV.bool false)), (RV.d (DV.bool (k == 3)), RV.d (DV.bool true))] rfl (by kernel_rfl : runEnd (cfT t6) true _ 1000 0 _ _ (ini 34 [.d (vv k n s), .d (vv k2 n2 s2)] []) = some (RV.d (DV.int Go.IntKind.i64 (Plain.cmpS s s2)), [], _, _)) (by refine ⟨?_, ?_, trivial⟩ <;> (exact decide_eq_true (by assumption))) ⟨le_bool h9, le_bool h20, le_bool h27, le_bool h28, trivial⟩ ⟨by unfold cmpV; first | (have e : k ≠ k2 := (by simpa using h9); congr 2; simp only; unfold cmpI; by_cases h : k < k2; (rw [if_pos h, if_pos h]); (rw [if_neg h, if_neg h, if_pos (by omega), if_pos (by omega)])) | (have e : k = k2 := (by simpa using h9); subst e; rw [if_neg (by simp), if_neg (by simp)]; simp only; first | (have e1 : k = 1 := (by simpa using h20); rw [if_pos e1]; done) | (have e1 : k ≠ 1 := (by simpa using h20); rw [if_neg e1]; first | (have e2 : k = 2 := (by simpa using h27); rw [if_pos (.inl e2)]; done) | (have e2 : k ≠ 2 := (by simpa using h27); first | (have e3 : k = 3 := (by simpa using h28); rw [if_pos (.inr e3)]; done) | (have e3 : k ≠ 3 := (by simpa using h28); rw [if_neg (by omega)])))), rfl⟩
        · skip
          exact WK.fin ok 1000 0 [(12, RV.d (DV.int Go.IntKind.i64 k)), (15, RV.d (DV.int Go.IntKind.i64 k2)), (9, RV.d (DV.bool false)), (20, RV.d (DV.bool false)), (27, RV.d (DV.bool false)), (28, RV.d (DV.bool false))] [] [(RV.d (DV.bool (k != k2)), RV.d (DV.bool false)), (RV.d (DV.bool (k == 1)), RV.d (DV.bool false)), (RV.d (DV.bool (k == 2)), RV.d (DV.bool false)), (RV.d (DV.bool (k == 3)), RV.d (DV.bool false))] rfl (by kernel_rfl : runEnd (cfT t6) true _ 1000 0 _ _ (ini 34 [.d (vv k n s), .d (vv k2 n2 s2)] []) = some (RV.d (DV.int Go.IntKind.i64 (0)), [], _, _)) trivial ⟨le_bool h9, le_bool h20, le_bool h27, le_bool h28, trivial⟩ ⟨by unfold cmpV; first | (have e : k ≠ k2 := (by simpa using h9); congr 2; simp only; unfold cmpI; by_cases h : k < k2; (rw [if_pos h, if_pos h]); (rw [if_neg h, if_neg h, if_pos (by omega), if_pos (by omega)])) | (have e : k = k2 := (by simpa using h9); subst e; rw [if_neg (by simp), if_neg (by simp)]; simp only; first | (have e1 : k = 1 := (by simpa using h20); rw [if_pos e1]; done) | (have e1 : k ≠ 1 := (by simpa using h20); rw [if_neg e1]; first | (have e2 : k = 2 := (by simpa using h27); rw [if_pos (.inl e2)]; done) | (have e2 : k ≠ 2 := (by simpa using h27); first | (have e3 : k = 3 := (by simpa using h28); rw [if_pos (.inr e3)]; done) | (have e3 : k ≠ 3 := (by simpa using h28); rw [if_neg (by omega)])))), rfl⟩
theorem rv_ent : EntOk Try.prog 83 (e2 rvG) := by
  refine e2_ok fun x x2 y c hg hc => ?_
  unfold rvG at hg
  split at hg
  · rename_i k n s k2 n2 s2
    simp only [Option.some.injEq, Prod.mk.injEq] at hg
    obtain ⟨rfl, rfl⟩ := hg
    exact rv_c _ _ _ _ _ _ (by simpa using hc (decide (0 ≤ k ∧ k ≤ 255)) (by simp)) (by simpa using hc (decide (0 ≤ k2 ∧ k2 ≤ 255)) (by simp)) (by simpa using hc (decide (s.length ≤ 1000000)) (by simp)) (by simpa using hc (decide (s2.length ≤ 1000000)) (by simp))
  · cases hg
noncomputable def t7 : List (Nat × Ent) := (83, e2 rvG) :: t6
theorem t7_ok : EntsOk Try.prog t7 := .cons rv_ent t6_ok

theorem sm_at {l : List Val} {i : Nat} {v : Val} (h : i < l.length) (hv : l[i] = v) (hs : smR l = true) : v.s.length ≤ 1000000 := by
  have := List.all_eq_true.1 hs _ (List.getElem_mem h)
  rw [hv] at this
  simpa [smV] using this
theorem wf_at {l : List Val} {i : Nat} {v : Val} (h : i < l.length) (hv : l[i] = v) (hw : ∀ v ∈ l, v.wf) : v.wf := by
  rw [← hv]; exact hw _ (List.getElem_mem h)
theorem rr_c (a b : List Val) (ha : a.length ≤ 65536) (wa : ∀ v ∈ a, v.wf) (wb : ∀ v ∈ b, v.wf) (sa : smR a = true) (sb : smR b = true) : C Try.prog 84 [.d (rD a), .d (rD b)] [] (fun r o => r = .d (.int .i64 (cmpR a b)) ∧ o = []) := by
  have ok := cfT_ok t7_ok
  refine C_of_run (fn := Try.f84) (body := rrC) true (by kernel_rfl) (by kernel_rfl) (by kernel_rfl) ?_
  have hla : (Nat.cast (R := Int) (a.map vD).length) = (Nat.cast (R := Int) a.length) := by rw [List.length_map]
  have hlb : (Nat.cast (R := Int) (b.map vD).length) = (Nat.cast (R := Int) b.length) := by rw [List.length_map]
  have hloop : WK Try.prog 0 (stackAt rrC 0) (rrS (a.map vD) (b.map vD) 0).den (Ends (Try.f84.results.toList) (.d (.int .i64 (cmpR a b)))) := by
    refine WK.rec' (fun i => rrS (a.map vD) (b.map vD) i) (fun i => (i ≤ a.length ∧ i ≤ b.length) ∧ cmpR (a.drop i) (b.drop i) = cmpR a b) (fun i => a.length - i) ?_ 0 ⟨⟨Nat.zero_le _, Nat.zero_le _⟩, rfl⟩
    rintro i ⟨⟨hi, hi2⟩, hc⟩ ih
    obtain ⟨v, hv⟩ := at_ex a i
    obtain ⟨w, hw⟩ := at_ex b i
    by_cases h9 : i < a.length
    · have hwv := wf_at h9 (hv h9) wa
      have hsv := sm_at h9 (hv h9) sa
      have hge : decide ((Nat.cast (R := Int) i) < (Nat.cast (R := Int) (b.map vD).length)) = false → cmpI (a.map vD).length (b.map vD).length = cmpR a b := fun h => by
        rw [← hc, cmpR_end (.inr (ge_map h)) hi hi2, hla, hlb]
      have hstep : i < b.length → (if cmpV v w = 0 then cmpR (a.drop (i + 1)) (b.drop (i + 1)) else cmpV v w) = cmpR a b := fun h => by
        rw [← hc, cmpR_drop h9 h, hv h9, hw h]
      rcases Bool.eq_false_or_eq_true (decide ((Nat.cast (R := Int) i) < (Nat.cast (R := Int) (b.map vD).length)) : Bool) with h16 | h16
      · skip
        rcases Bool.eq_false_or_eq_true (Plain.cmpV v w != 0 : Bool) with h29 | h29
        · skip
          exact WK.fin ok 1000 0 [(10, RV.d (DV.bool true)), (21, RV.iptr (DV.agg [DV.int Go.IntKind.u8 v.1, DV.int Go.IntKind.i64 v.2, DV.str v.3]) 0), (25, RV.iptr (DV.agg [DV.int Go.IntKind.u8 w.1, DV.int Go.IntKind.i64 w.2, DV.str w.3]) 0), (27, RV.d (DV.int Go.IntKind.i64 (Plain.cmpV v w))), (18, RV.d (DV.int Go.IntKind.i64 (Nat.cast (R := Int) (i + 1)))), (16, RV.d (DV.bool true)), (29, RV.d (DV.bool true))] [decide (0 ≤ (Nat.cast (R := Int) i) ∧ (Nat.cast (R := Int) i) < (Nat.cast (R := Int) (a.map vD).length)), decide (0 ≤ (Nat.cast (R := Int) i) ∧ (Nat.cast (R := Int) i) < (Nat.cast (R := Int) (b.map vD).length)), decide (0 ≤ v.k ∧ v.k ≤ 255), decide (0 ≤ w.k ∧ w.k ≤ 255), decide (List.length v.s ≤ 1000000), decide (List.length w.s ≤ 1000000)] [(RV.d (DV.bool (decide ((Nat.cast (R := Int) i) < (Nat.cast (R := Int) (a.map vD).length)))), RV.d (DV.bool true)), (RV.d (DV.bool (decide ((Nat.cast (R := Int) i) < (Nat.cast (R := Int) (b.map vD).length)))), RV.d (DV.bool true)), (RV.iptr ((a.map vD).getD (Nat.cast (R := Int) i).toNat DV.nilp) 0, RV.iptr (DV.agg [DV.int Go.IntKind.u8 v.1, DV.int Go.IntKind.i64 v.2, DV.str v.3]) 0), (RV.iptr ((b.map vD).getD (Nat.cast (R := Int) i).toNat DV.nilp) 0, RV.iptr (DV.agg [DV.int Go.IntKind.u8 w.1, DV.int Go.IntKind.i64 w.2, DV.str w.3]) 0), (RV.d (DV.int Go.IntKind.i64 (Plain.cmpV { k := v.1, n := v.2, s := v.3 } { k := w.1, n := w.2, s := w.3 })), RV.d (DV.int Go.IntKind.i64 (Plain.cmpV v w))), (RV.d (DV.bool (Plain.cmpV v w != 0)), RV.d (DV.bool true))] rfl (by kernel_rfl : runEnd (cfT t7) true _ 1000 0 _ _ (rrS (a.map vD) (b.map vD) i) = some (RV.d (DV.int Go.IntKind.i64 (Plain.cmpV v w)), [], _, _)) (by refine ⟨?_, ?_, ?_, ?_, ?_, ?_, trivial⟩ <;> (have hlt := lt_map h16; have q1 := wf_at hlt (hw hlt) wb; have q2 := sm_at hlt (hw hlt) sb; first | exact bd_map h9 | exact bd_map hlt | exact decide_eq_true ⟨hwv.1, hwv.2.1⟩ | exact decide_eq_true ⟨q1.1, q1.2.1⟩ | exact decide_eq_true hsv | exact decide_eq_true q2)) (by refine ⟨?_, le_bool h16, ?_, ?_, ?_, le_bool h29, trivial⟩ <;> (first | exact le_bool (decide_eq_true (by omega)) | exact ov_val h9 (hv h9) | exact ov_val (lt_map h16) (hw (lt_map h16)) | exact ov_succ (by omega) | exact .of_eq rfl)) ⟨by first | (rw [hge h16]; done) | (have e := hstep (lt_map h16); have e2 : cmpV v w ≠ 0 := (by simpa using h29); rw [if_neg e2] at e; rw [e]), rfl⟩
        · skip
          refine WK.segA ok 1000 0 [(10, RV.d (DV.bool true)), (21, RV.iptr (DV.agg [DV.int Go.IntKind.u8 v.1, DV.int Go.IntKind.i64 v.2, DV.str v.3]) 0), (25, RV.iptr (DV.agg [DV.int Go.IntKind.u8 w.1, DV.int Go.IntKind.i64 w.2, DV.str w.3]) 0), (27, RV.d (DV.int Go.IntKind.i64 (Plain.cmpV v w))), (18, RV.d (DV.int Go.IntKind.i64 (Nat.cast (R := Int) (i + 1)))), (16, RV.d (DV.bool true)), (29, RV.d (DV.bool false))] [] [0, 1, 5] [decide (0 ≤ (Nat.cast (R := Int) i) ∧ (Nat.cast (R := Int) i) < (Nat.cast (R := Int) (a.map vD).length)), decide (0 ≤ (Nat.cast (R := Int) i) ∧ (Nat.cast (R := Int) i) < (Nat.cast (R := Int) (b.map vD).length)), decide (0 ≤ v.k ∧ v.k ≤ 255), decide (0 ≤ w.k ∧ w.k ≤ 255), decide (List.length v.s ≤ 1000000), decide (List.length w.s ≤ 1000000)] [(RV.d (DV.bool (decide ((Nat.cast (R := Int) i) < (Nat.cast (R := Int) (a.map vD).length)))), RV.d (DV.bool true)), (RV.d (DV.bool (decide ((Nat.cast (R := Int) i) < (Nat.cast (R := Int) (b.map vD).length)))), RV.d (DV.bool true)), (RV.iptr ((a.map vD).getD (Nat.cast (R := Int) i).toNat DV.nilp) 0, RV.iptr (DV.agg [DV.int Go.IntKind.u8 v.1, DV.int Go.IntKind.i64 v.2, DV.str v.3]) 0), (RV.iptr ((b.map vD).getD (Nat.cast (R := Int) i).toNat DV.nilp) 0, RV.iptr (DV.agg [DV.int Go.IntKind.u8 w.1, DV.int Go.IntKind.i64 w.2, DV.str w.3]) 0), (RV.d (DV.int Go.IntKind.i64 (Plain.cmpV { k := v.1, n := v.2, s := v.3 } { k := w.1, n := w.2, s := w.3 })), RV.d (DV.int Go.IntKind.i64 (Plain.cmpV v w))), (RV.d (DV.bool (Plain.cmpV v w != 0)), RV.d (DV.bool false)), (RV.d (DV.int Go.IntKind.i64 (Go.IntKind.i64.wrap ((Nat.cast (R := Int) i) + 1))), RV.d (DV.int Go.IntKind.i64 (Nat.cast (R := Int) (i + 1))))] rfl (by kernel_rfl : runSegA (cfT t7) 1000 0 _ _ _ _ (rrS (a.map vD) (b.map vD) i) = some (stackAt rrC 0, rrS (a.map vD) (b.map vD) (i + 1), _, _)) (by refine ⟨?_, ?_, ?_, ?_, ?_, ?_, trivial⟩ <;> (have hlt := lt_map h16; have q1 := wf_at hlt (hw hlt) wb; have q2 := sm_at hlt (hw hlt) sb; first | exact bd_map h9 | exact bd_map hlt | exact decide_eq_true ⟨hwv.1, hwv.2.1⟩ | exact decide_eq_true ⟨q1.1, q1.2.1⟩ | exact decide_eq_true hsv | exact decide_eq_true q2)) (by refine ⟨?_, le_bool h16, ?_, ?_, ?_, le_bool h29, ?_, trivial⟩ <;> (first | exact le_bool (decide_eq_true (by omega)) | exact ov_val h9 (hv h9) | exact ov_val (lt_map h16) (hw (lt_map h16)) | exact ov_succ (by omega) | exact .of_eq rfl)) ?_
          have e := hstep (lt_map h16)
          have e2 : cmpV v w = 0 := (by simpa using h29)
          rw [if_pos e2] at e
          exact ih (i + 1) ⟨⟨h9, lt_map h16⟩, e⟩ (by omega)
      · skip
        exact WK.fin ok 1000 0 [(10, RV.d (DV.bool true)), (21, RV.iptr (DV.agg [DV.int Go.IntKind.u8 v.1, DV.int Go.IntKind.i64 v.2, DV.str v.3]) 0), (25, RV.iptr (DV.agg [DV.int Go.IntKind.u8 w.1, DV.int Go.IntKind.i64 w.2, DV.str w.3]) 0), (27, RV.d (DV.int Go.IntKind.i64 (Plain.cmpV v w))), (18, RV.d (DV.int Go.IntKind.i64 (Nat.cast (R := Int) (i + 1)))), (16, RV.d (DV.bool false))] [] [(RV.d (DV.bool (decide ((Nat.cast (R := Int) i) < (Nat.cast (R := Int) (a.map vD).length)))), RV.d (DV.bool true)), (RV.d (DV.bool (decide ((Nat.cast (R := Int) i) < (Nat.cast (R := Int) (b.map vD).length)))), RV.d (DV.bool false))] rfl (by kernel_rfl : runEnd (cfT t7) true _ 1000 0 _ _ (rrS (a.map vD) (b.map vD) i) = some (RV.d (DV.int Go.IntKind.i64 (Plain.cmpI (Nat.cast (R := Int) (a.map vD).length) (Nat.cast (R := Int) (b.map vD).length))), [], _, _)) trivial ⟨(by first | exact le_bool (decide_eq_true (by omega)) | exact ov_val h9 (hv h9) | exact ov_val (lt_map h16) (hw (lt_map h16)) | exact ov_succ (by omega) | exact .of_eq rfl), le_bool h16, trivial⟩ ⟨by first | (rw [hge h16]; done) | (have e := hstep (lt_map h16); have e2 : cmpV v w ≠ 0 := (by simpa using h29); rw [if_neg e2] at e; rw [e]), rfl⟩
    · have e := cmpR_end (.inl (by omega)) hi hi2
      rw [hc, ← hla, ← hlb] at e
      exact WK.fin ok 1000 0 [(10, RV.d (DV.bool false))] [] [(RV.d (DV.bool (decide ((Nat.cast (R := Int) i) < (Nat.cast (R := Int) (a.map vD).length)))), RV.d (DV.bool false))] rfl (by kernel_rfl : runEnd (cfT t7) true _ 1000 0 _ _ (rrS (a.map vD) (b.map vD) i) = some (RV.d (DV.int Go.IntKind.i64 (Plain.cmpI (Nat.cast (R := Int) (a.map vD).length) (Nat.cast (R := Int) (b.map vD).length))), [], _, _)) trivial ⟨(by exact le_bool (decide_eq_false (by omega))), trivial⟩ ⟨by rw [e], rfl⟩
  refine WK.segA ok 1000 0 [] [] [0, 1, 5] [] [] rfl (by kernel_rfl : runSegA (cfT t7) 1000 0 _ _ _ _ (ini 36 [.d (rD a), .d (rD b)] []) = some (stackAt rrC 0, rrS (a.map vD) (b.map vD) 0, _, _)) trivial trivial ?_
  exact hloop
theorem rr_ent : EntOk Try.prog 84 (e2 rrG) := by
  refine e2_ok fun x x2 y c hg hc => ?_
  simp only [rrG, Option.some.injEq, Prod.mk.injEq] at hg
  obtain ⟨rfl, rfl⟩ := hg
  have s1 := hc (smR (unR x)) (by simp)
  have s2 := hc (smR (unR x2)) (by simp)
  obtain ⟨a, rfl, wa, la⟩ := isR_spec (hc (isR x) (by simp))
  obtain ⟨b, rfl, wb, lb⟩ := isR_spec (hc (isR x2) (by simp))
  rw [unR_rD] at s1 s2
  rw [unR_rD, unR_rD]
  exact rr_c a b la wa wb s1 s2
noncomputable def t8 : List (Nat × Ent) := (84, e2 rrG) :: t7
theorem t8_ok : EntsOk Try.prog t8 := .cons rr_ent t7_ok
theorem rc_c (a b : Chg) (ha : Chg.ok a) (hb : Chg.ok b) (sa : smC a = true) (sb : smC b = true) : C Try.prog 70 [.d (chD a), .d (chD b)] [] (fun r o => r = .d (.int .i64 (cmpC a b)) ∧ o = []) := by
  have ok := cfT_ok t8_ok
  simp only [smC, Bool.and_eq_true] at sa sb
  refine C_of_run (fn := Try.f70) (body := rcC) true (by kernel_rfl) (by kernel_rfl) (by kernel_rfl) ?_
  rcases Bool.eq_false_or_eq_true (Plain.cmpS a.1 b.1 != 0 : Bool) with h14 | h14
  · skip
    exact WK.fin ok 1000 0 [(12, RV.d (DV.int Go.IntKind.i64 (Plain.cmpS a.1 b.1))), (20, RV.d (DV.int Go.IntKind.i64 (Plain.cmpR a.2 b.2))), (14, RV.d (DV.bool true))] [true, true, decide (List.length a.t ≤ 1000000), decide (List.length b.t ≤ 1000000)] [(RV.d (DV.int Go.IntKind.i64 (Plain.cmpV { k := 2, n := 0, s := a.1 } { k := 2, n := 0, s := b.1 })), RV.d (DV.int Go.IntKind.i64 (Plain.cmpS a.1 b.1))), (RV.d (DV.bool (Plain.cmpS a.1 b.1 != 0)), RV.d (DV.bool true))] rfl (by kernel_rfl : runEnd (cfT t8) true _ 1000 0 _ _ (ini 21 [.d (chD a), .d (chD b)] []) = some (RV.d (DV.int Go.IntKind.i64 (Plain.cmpS a.1 b.1)), [], _, _)) (by refine ⟨?_, ?_, ?_, ?_, trivial⟩ <;> (first | rfl | exact sa.1 | exact sb.1 | exact ok_k ha | exact ok_k hb | (rw [unR_rD]; first | exact sa.2 | exact sb.2))) ⟨(by first | exact ov_R a.k b.k | exact .of_eq (by simp [cmpV])), le_bool h14, trivial⟩ ⟨by unfold cmpC; first | rw [if_neg (by simpa using h14)] | rw [if_pos (by simpa using h14)], rfl⟩
  · skip
    exact WK.fin ok 1000 0 [(12, RV.d (DV.int Go.IntKind.i64 (Plain.cmpS a.1 b.1))), (20, RV.d (DV.int Go.IntKind.i64 (Plain.cmpR a.2 b.2))), (14, RV.d (DV.bool false))] [true, true, decide (List.length a.t ≤ 1000000), decide (List.length b.t ≤ 1000000), isR (DV.lst 3 (List.map vD a.2) false), isR (DV.lst 3 (List.map vD b.2) false), smR (unR (rD a.k)), smR (unR (rD b.k))] [(RV.d (DV.int Go.IntKind.i64 (Plain.cmpV { k := 2, n := 0, s := a.1 } { k := 2, n := 0, s := b.1 })), RV.d (DV.int Go.IntKind.i64 (Plain.cmpS a.1 b.1))), (RV.d (DV.bool (Plain.cmpS a.1 b.1 != 0)), RV.d (DV.bool false)), (RV.d (DV.int Go.IntKind.i64 (Plain.cmpR (unR (rD a.k)) (unR (rD b.k)))), RV.d (DV.int Go.IntKind.i64 (Plain.cmpR a.2 b.2)))] rfl (by kernel_rfl : runEnd (cfT t8) true _ 1000 0 _ _ (ini 21 [.d (chD a), .d (chD b)] []) = some (RV.d (DV.int Go.IntKind.i64 (Plain.cmpR a.2 b.2)), [], _, _)) (by refine ⟨?_, ?_, ?_, ?_, ?_, ?_, ?_, ?_, trivial⟩ <;> (first | rfl | exact sa.1 | exact sb.1 | exact ok_k ha | exact ok_k hb | (rw [unR_rD]; first | exact sa.2 | exact sb.2))) (by refine ⟨?_, le_bool h14, ?_, trivial⟩ <;> (first | exact ov_R a.k b.k | exact .of_eq (by simp [cmpV]))) ⟨by unfold cmpC; first | rw [if_neg (by simpa using h14)] | rw [if_pos (by simpa using h14)], rfl⟩
theorem rc_ent : EntOk Try.prog 70 (e2 rcG) := by
  refine e2_ok fun x x2 y c hg hc => ?_
  simp only [rcG, Option.some.injEq, Prod.mk.injEq] at hg
  obtain ⟨rfl, rfl⟩ := hg
  have s1 := hc (smC (toChg x)) (by simp)
  have s2 := hc (smC (toChg x2)) (by simp)
  obtain ⟨a, rfl, wa⟩ := isC_spec (hc (isC x) (by simp))
  obtain ⟨b, rfl, wb⟩ := isC_spec (hc (isC x2) (by simp))
  rw [toChg_chD] at s1 s2
  rw [toChg_chD, toChg_chD]
  exact rc_c a b wa wb s1 s2

noncomputable def t9 : List (Nat × Ent) := [(81, e1 (gRow (fun l => .int .i64 (chkRow l)) fun _ => true)), (82, e1 (gRow (fun l => .str (allL l)) fun l => decide (l.length ≤ 16) && l.all fun v => chk v == 0))]
theorem t9_ok : EntsOk Try.prog t9 := .cons rcheck_ent (.cons rall_ent .nil)
theorem row_c (r : List Val) (hl : r.length ≤ 65536) (hw : ∀ v ∈ r, v.wf) : C Try.prog 69 [.d (rD r)] [] (fun q o => q = .d (.bool (rowB r)) ∧ o = []) := by
  have ok := cfT_ok t9_ok
  refine C_of_run (fn := Try.f69) (body := rowC) true (by kernel_rfl) (by kernel_rfl) (by kernel_rfl) ?_
  have hr : okRow (r.map vD) = true := okRow_map hl hw
  by_cases hc : chkRow r = 0
  · obtain ⟨g1, g2⟩ := chkRow_zero hc
    have hB : rowB r = decide ((allL r).length ≤ 4000) := by
      by_cases h4 : 4000 < (allL r).length
      · rw [rowB, putRow_long hc h4]; simp; omega
      · rw [rowB, putRow_good hc h4]; simp; omega
    exact WK.fin ok 1000 0 [(5, RV.d (DV.bool true)), (10, RV.d (DV.bool (decide ((allL r).length ≤ 4000))))] [okRow (List.map vD r), true, okRow (List.map vD r), decide ((toRow (List.map vD r)).length ≤ 16) && (toRow (List.map vD r)).all fun v => Plain.chk v == 0] [(RV.d (DV.bool (Plain.chkRow (toRow (List.map vD r)) == 0)), RV.d (DV.bool true)), (RV.d (DV.bool (decide ((Nat.cast (R := Int) (List.length (Plain.allL (toRow (List.map vD r))))) ≤ 4000))), RV.d (DV.bool (decide ((allL r).length ≤ 4000))))] rfl (by kernel_rfl : runEnd (cfT t9) true _ 1000 0 _ _ (ini 12 [.d (rD r)] []) = some (RV.d (DV.bool (decide ((allL r).length ≤ 4000))), [], _, _)) (by refine ⟨?_, ?_, ?_, ?_, trivial⟩ <;> (first | rfl | exact hr | (rw [toRow_map]; simp only [Bool.and_eq_true, decide_eq_true_eq, List.all_eq_true, beq_iff_eq]; exact ⟨g1, g2⟩))) (by refine ⟨?_, ?_, trivial⟩ <;> (first | exact le_bool (by rw [toRow_map, hc]; rfl) | (refine le_bool ?_; rw [toRow_map]; apply Bool.eq_iff_iff.2; simp only [decide_eq_true_eq]; omega))) ⟨by rw [hB], rfl⟩
  · have hB : rowB r = false := by rw [rowB, putRow_bad hc]; simpa using hc
    exact WK.fin ok 1000 0 [(5, RV.d (DV.bool false))] [okRow (List.map vD r), true] [(RV.d (DV.bool (Plain.chkRow (toRow (List.map vD r)) == 0)), RV.d (DV.bool false))] rfl (by kernel_rfl : runEnd (cfT t9) true _ 1000 0 _ _ (ini 12 [.d (rD r)] []) = some (RV.d (DV.bool false), [], _, _)) (by refine ⟨?_, ?_, trivial⟩ <;> (first | rfl | exact hr)) ⟨(by exact le_bool (by rw [toRow_map]; simpa using hc)), trivial⟩ ⟨by rw [hB], rfl⟩
theorem row_ent : EntOk Try.prog 69 (e1 roG) := by
  refine e1_ok fun x y c hg hc => ?_
  simp only [roG, Option.some.injEq, Prod.mk.injEq] at hg
  obtain ⟨rfl, rfl⟩ := hg
  obtain ⟨a, rfl, wa, la⟩ := isR_spec (hc (isR x) (by simp))
  rw [unR_rD]
  exact row_c a la wa
end Go.Proofs.Ytljfolepmkcjlaa

/-
  counterfoilref22.May; going over both lists (rebase.meet).
-/
namespace Go.Proofs.Ytljfolepmkcjlaa
open Go.RowKit Plain Am IntWalk
set_option maxRecDepth 100000
set_option linter.unusedVariables false
set_option linter.unusedSimpArgs false

theorem may_no {x : Chg} (h : x.t.length < 1 ∨ 32 < x.t.length ∨ x.k.length < 1 ∨ rowB x.k = false ∨ rowB x.o = false ∨ rowB x.n = false ∨ x.o = x.n) : mayC x = false := by
  rcases h with h | h | h | h | h | h | h
  · have : ¬ 1 ≤ x.t.length := by omega
    simp [mayC, this]
  · have : ¬ x.t.length ≤ 32 := by omega
    simp [mayC, this]
  · have : ¬ 1 ≤ x.k.length := by omega
    simp [mayC, this]
  · simp [mayC, h]
  · simp [mayC, h]
  · simp [mayC, h]
  · simp [mayC, h]
theorem smC_of {x : Chg} (h : mayC x = true) : smC x = true := by
  simp only [mayC, Bool.and_eq_true, decide_eq_true_eq] at h
  obtain ⟨⟨⟨⟨⟨⟨h1, h2⟩, _⟩, _⟩, h4⟩, _⟩, _⟩ := h
  have := (chkRow_zero (putRow_ok (rowB_iff.1 h4)).1).2
  simp only [smC, Bool.and_eq_true, decide_eq_true_eq]
  refine ⟨by omega, List.all_eq_true.2 fun v hv => ?_⟩
  have := (chk_zero (this v hv)).2.2.2
  simp only [smV, decide_eq_true_eq]; omega

noncomputable def ta : List (Nat × Ent) := (69, e1 roG) :: (70, e2 rcG) :: t2
theorem ta_ok : EntsOk Try.prog ta := .cons row_ent (.cons rc_ent t2_ok)
theorem ma_c (l : List Chg) (hl : okL l) : C Try.prog 49 [.d (chL l)] [] (fun r o => r = .d (.bool (mayL l)) ∧ o = []) := by
  have ok := cfT_ok ta_ok
  refine C_of_run (fn := Try.f49) (body := maC) true (by kernel_rfl) (by kernel_rfl) (by kernel_rfl) ?_
  have hml : (l.map chD).length = l.length := List.length_map ..
  have hok := hl.2
  have hloop : l.length ≤ 1000 → WK Try.prog 0 (stackAt maC 0) (maS (l.map chD) 0).den (Ends (Try.f49.results.toList) (.d (.bool (mayL l)))) := by
    intro hlen
    have hmay : mayL l = mayI none l := by simp [mayL, hlen]
    rw [hmay]
    refine WK.rec' (fun i => maS (l.map chD) i) (fun i => i ≤ l.length ∧ mayI (ahead l i) (l.drop i) = mayI none l ∧ ∀ y, ahead l i = some y → mayC y = true) (fun i => l.length - i) ?_ 0 ⟨Nat.zero_le _, rfl, by simp [ahead]⟩
    rintro i ⟨hi, ht, hpr⟩ ih
    obtain ⟨x, hx⟩ := at_chg l i
    have hxo : i < l.length → Chg.ok x := fun h => by rw [← hx h]; exact hok _ (List.getElem_mem h)
    have hend : decide ((Nat.cast (R := Int) i) < (Nat.cast (R := Int) (l.map chD).length)) = false → mayI none l = true := fun h => by
      rw [← ht, List.drop_eq_nil_of_le (ge_map h)]; rfl
    have hstep : i < l.length → mayI none l = (mayC x && (match ahead l i with | none => true | some y => decide (cmpC y x < 0)) && mayI (ahead l (i + 1)) (l.drop (i + 1))) := fun h => by
      rw [← ht, mayI_drop h, hx h]; rfl
    have hno : mayC x = false → i < l.length → mayI none l = false := fun h h2 => by rw [hstep h2, h]; rfl
    have hmk : (x.k.map vD).length = x.k.length := List.length_map ..
    by_cases c1 : x.t.length < 1
    · have hm : mayC x = false := may_no (by first | exact .inl c1 | exact .inr (.inl c1) | exact .inr (.inr (.inl c1)) | exact .inr (.inr (.inr (.inl c1))) | exact .inr (.inr (.inr (.inr (.inl c1)))) | exact .inr (.inr (.inr (.inr (.inr (.inl c1))))) | exact .inr (.inr (.inr (.inr (.inr (.inr c1))))))
      rcases Bool.eq_false_or_eq_true (decide ((Nat.cast (R := Int) i) < (Nat.cast (R := Int) (l.map chD).length)) : Bool) with h11 | h11
      · skip
        exact WK.fin ok 1000 0 [(16, RV.iptr (DV.agg [DV.str x.1, DV.lst 3 (List.map vD x.2) false, DV.lst 3 (List.map vD x.3) false, DV.lst 3 (List.map vD x.4) false]) 0), (21, RV.d (DV.bool true)), (22, RV.d (DV.bool true)), (28, RV.d (DV.bool true)), (34, RV.d (DV.bool true)), (40, RV.d (DV.bool true)), (46, RV.d (DV.bool true)), (52, RV.d (DV.bool true)), (59, RV.d (DV.bool true)), (72, RV.d (DV.bool true)), (11, RV.d (DV.bool true))] [decide (0 ≤ (Nat.cast (R := Int) i) ∧ (Nat.cast (R := Int) i) < (Nat.cast (R := Int) (l.map chD).length))] [(RV.d (DV.bool (decide ((Nat.cast (R := Int) i) < (Nat.cast (R := Int) (l.map chD).length)))), RV.d (DV.bool true)), (RV.iptr ((l.map chD).getD (Nat.cast (R := Int) i).toNat DV.nilp) 0, RV.iptr (DV.agg [DV.str x.1, DV.lst 3 (List.map vD x.2) false, DV.lst 3 (List.map vD x.3) false, DV.lst 3 (List.map vD x.4) false]) 0), (RV.d (DV.bool (decide ((Nat.cast (R := Int) (List.length x.t)) < 1))), RV.d (DV.bool true)), (RV.d (DV.bool true), RV.d (DV.bool true)), (RV.d (DV.bool true), RV.d (DV.bool true)), (RV.d (DV.bool true), RV.d (DV.bool true)), (RV.d (DV.bool true), RV.d (DV.bool true)), (RV.d (DV.bool true), RV.d (DV.bool true)), (RV.d (DV.bool true), RV.d (DV.bool true)), (RV.d (DV.bool true), RV.d (DV.bool true)), (RV.d (DV.bool true), RV.d (DV.bool true))] rfl (by kernel_rfl : runEnd (cfT ta) true _ 1000 0 _ _ (maS (l.map chD) i) = some (RV.d (DV.bool false), [], _, _)) ⟨(by have hlt := lt_map h11; first | exact bd_map hlt | exact ok_k (hxo hlt) | exact ok_o (hxo hlt) | exact ok_n (hxo hlt)), trivial⟩ (by refine ⟨le_bool h11, ?_, ?_, ?_, ?_, ?_, ?_, ?_, ?_, ?_, ?_, trivial⟩ <;> (have hlt := lt_map h11; first | exact ov_chg hlt (hx hlt) | exact le_bool (decide_eq_true (by omega)) | exact le_bool (decide_eq_false (by omega)) | exact ov_B (by assumption) | exact ov_B (by simp only [Bool.not_eq_false] at *; assumption) | exact ov_Eb (by simpa using c7) | exact le_bool rfl)) ⟨by first | (rw [hno hm (lt_map h11)]; done) | rw [hend h11], rfl⟩
      · skip
        exact WK.fin ok 1000 0 [(16, RV.iptr (DV.agg [DV.str x.1, DV.lst 3 (List.map vD x.2) false, DV.lst 3 (List.map vD x.3) false, DV.lst 3 (List.map vD x.4) false]) 0), (21, RV.d (DV.bool true)), (22, RV.d (DV.bool true)), (28, RV.d (DV.bool true)), (34, RV.d (DV.bool true)), (40, RV.d (DV.bool true)), (46, RV.d (DV.bool true)), (52, RV.d (DV.bool true)), (59, RV.d (DV.bool true)), (72, RV.d (DV.bool true)), (11, RV.d (DV.bool false))] [] [(RV.d (DV.bool (decide ((Nat.cast (R := Int) i) < (Nat.cast (R := Int) (l.map chD).length)))), RV.d (DV.bool false))] rfl (by kernel_rfl : runEnd (cfT ta) true _ 1000 0 _ _ (maS (l.map chD) i) = some (RV.d (DV.bool true), [], _, _)) trivial ⟨le_bool h11, trivial⟩ ⟨by first | (rw [hno hm (lt_map h11)]; done) | rw [hend h11], rfl⟩
    by_cases c2 : 32 < x.t.length
    · have hm : mayC x = false := may_no (by first | exact .inl c2 | exact .inr (.inl c2) | exact .inr (.inr (.inl c2)) | exact .inr (.inr (.inr (.inl c2))) | exact .inr (.inr (.inr (.inr (.inl c2)))) | exact .inr (.inr (.inr (.inr (.inr (.inl c2))))) | exact .inr (.inr (.inr (.inr (.inr (.inr c2))))))
      rcases Bool.eq_false_or_eq_true (decide ((Nat.cast (R := Int) i) < (Nat.cast (R := Int) (l.map chD).length)) : Bool) with h11 | h11
      · skip
        exact WK.fin ok 1000 0 [(16, RV.iptr (DV.agg [DV.str x.1, DV.lst 3 (List.map vD x.2) false, DV.lst 3 (List.map vD x.3) false, DV.lst 3 (List.map vD x.4) false]) 0), (21, RV.d (DV.bool false)), (22, RV.d (DV.bool false)), (26, RV.d (DV.bool true)), (28, RV.d (DV.bool true)), (34, RV.d (DV.bool true)), (40, RV.d (DV.bool true)), (46, RV.d (DV.bool true)), (52, RV.d (DV.bool true)), (59, RV.d (DV.bool true)), (72, RV.d (DV.bool true)), (11, RV.d (DV.bool true))] [decide (0 ≤ (Nat.cast (R := Int) i) ∧ (Nat.cast (R := Int) i) < (Nat.cast (R := Int) (l.map chD).length))] [(RV.d (DV.bool (decide ((Nat.cast (R := Int) i) < (Nat.cast (R := Int) (l.map chD).length)))), RV.d (DV.bool true)), (RV.iptr ((l.map chD).getD (Nat.cast (R := Int) i).toNat DV.nilp) 0, RV.iptr (DV.agg [DV.str x.1, DV.lst 3 (List.map vD x.2) false, DV.lst 3 (List.map vD x.3) false, DV.lst 3 (List.map vD x.4) false]) 0), (RV.d (DV.bool (decide ((Nat.cast (R := Int) (List.length x.t)) < 1))), RV.d (DV.bool false)), (RV.d (DV.bool false), RV.d (DV.bool false)), (RV.d (DV.bool (decide (32 < (Nat.cast (R := Int) (List.length x.t))))), RV.d (DV.bool true)), (RV.d (DV.bool true), RV.d (DV.bool true)), (RV.d (DV.bool true), RV.d (DV.bool true)), (RV.d (DV.bool true), RV.d (DV.bool true)), (RV.d (DV.bool true), RV.d (DV.bool true)), (RV.d (DV.bool true), RV.d (DV.bool true)), (RV.d (DV.bool true), RV.d (DV.bool true)), (RV.d (DV.bool true), RV.d (DV.bool true))] rfl (by kernel_rfl : runEnd (cfT ta) true _ 1000 0 _ _ (maS (l.map chD) i) = some (RV.d (DV.bool false), [], _, _)) ⟨(by have hlt := lt_map h11; first | exact bd_map hlt | exact ok_k (hxo hlt) | exact ok_o (hxo hlt) | exact ok_n (hxo hlt)), trivial⟩ (by refine ⟨le_bool h11, ?_, ?_, ?_, ?_, ?_, ?_, ?_, ?_, ?_, ?_, ?_, trivial⟩ <;> (have hlt := lt_map h11; first | exact ov_chg hlt (hx hlt) | exact le_bool (decide_eq_true (by omega)) | exact le_bool (decide_eq_false (by omega)) | exact ov_B (by assumption) | exact ov_B (by simp only [Bool.not_eq_false] at *; assumption) | exact ov_Eb (by simpa using c7) | exact le_bool rfl)) ⟨by first | (rw [hno hm (lt_map h11)]; done) | rw [hend h11], rfl⟩
      · skip
        exact WK.fin ok 1000 0 [(16, RV.iptr (DV.agg [DV.str x.1, DV.lst 3 (List.map vD x.2) false, DV.lst 3 (List.map vD x.3) false, DV.lst 3 (List.map vD x.4) false]) 0), (21, RV.d (DV.bool false)), (22, RV.d (DV.bool false)), (26, RV.d (DV.bool true)), (28, RV.d (DV.bool true)), (34, RV.d (DV.bool true)), (40, RV.d (DV.bool true)), (46, RV.d (DV.bool true)), (52, RV.d (DV.bool true)), (59, RV.d (DV.bool true)), (72, RV.d (DV.bool true)), (11, RV.d (DV.bool false))] [] [(RV.d (DV.bool (decide ((Nat.cast (R := Int) i) < (Nat.cast (R := Int) (l.map chD).length)))), RV.d (DV.bool false))] rfl (by kernel_rfl : runEnd (cfT ta) true _ 1000 0 _ _ (maS (l.map chD) i) = some (RV.d (DV.bool true), [], _, _)) trivial ⟨le_bool h11, trivial⟩ ⟨by first | (rw [hno hm (lt_map h11)]; done) | rw [hend h11], rfl⟩
    by_cases c3 : x.k.length < 1
    · have hm : mayC x = false := may_no (by first | exact .inl c3 | exact .inr (.inl c3) | exact .inr (.inr (.inl c3)) | exact .inr (.inr (.inr (.inl c3))) | exact .inr (.inr (.inr (.inr (.inl c3)))) | exact .inr (.inr (.inr (.inr (.inr (.inl c3))))) | exact .inr (.inr (.inr (.inr (.inr (.inr c3))))))
      rcases Bool.eq_false_or_eq_true (decide ((Nat.cast (R := Int) i) < (Nat.cast (R := Int) (l.map chD).length)) : Bool) with h11 | h11
      · skip
        exact WK.fin ok 1000 0 [(16, RV.iptr (DV.agg [DV.str x.1, DV.lst 3 (List.map vD x.2) false, DV.lst 3 (List.map vD x.3) false, DV.lst 3 (List.map vD x.4) false]) 0), (21, RV.d (DV.bool false)), (22, RV.d (DV.bool false)), (26, RV.d (DV.bool false)), (28, RV.d (DV.bool false)), (32, RV.d (DV.bool true)), (34, RV.d (DV.bool true)), (40, RV.d (DV.bool true)), (46, RV.d (DV.bool true)), (52, RV.d (DV.bool true)), (59, RV.d (DV.bool true)), (72, RV.d (DV.bool true)), (11, RV.d (DV.bool true))] [decide (0 ≤ (Nat.cast (R := Int) i) ∧ (Nat.cast (R := Int) i) < (Nat.cast (R := Int) (l.map chD).length))] [(RV.d (DV.bool (decide ((Nat.cast (R := Int) i) < (Nat.cast (R := Int) (l.map chD).length)))), RV.d (DV.bool true)), (RV.iptr ((l.map chD).getD (Nat.cast (R := Int) i).toNat DV.nilp) 0, RV.iptr (DV.agg [DV.str x.1, DV.lst 3 (List.map vD x.2) false, DV.lst 3 (List.map vD x.3) false, DV.lst 3 (List.map vD x.4) false]) 0), (RV.d (DV.bool (decide ((Nat.cast (R := Int) (List.length x.t)) < 1))), RV.d (DV.bool false)), (RV.d (DV.bool false), RV.d (DV.bool false)), (RV.d (DV.bool (decide (32 < (Nat.cast (R := Int) (List.length x.t))))), RV.d (DV.bool false)), (RV.d (DV.bool false), RV.d (DV.bool false)), (RV.d (DV.bool (decide ((Nat.cast (R := Int) (List.map vD x.k).length) < 1))), RV.d (DV.bool true)), (RV.d (DV.bool true), RV.d (DV.bool true)), (RV.d (DV.bool true), RV.d (DV.bool true)), (RV.d (DV.bool true), RV.d (DV.bool true)), (RV.d (DV.bool true), RV.d (DV.bool true)), (RV.d (DV.bool true), RV.d (DV.bool true)), (RV.d (DV.bool true), RV.d (DV.bool true))] rfl (by kernel_rfl : runEnd (cfT ta) true _ 1000 0 _ _ (maS (l.map chD) i) = some (RV.d (DV.bool false), [], _, _)) ⟨(by have hlt := lt_map h11; first | exact bd_map hlt | exact ok_k (hxo hlt) | exact ok_o (hxo hlt) | exact ok_n (hxo hlt)), trivial⟩ (by refine ⟨le_bool h11, ?_, ?_, ?_, ?_, ?_, ?_, ?_, ?_, ?_, ?_, ?_, ?_, trivial⟩ <;> (have hlt := lt_map h11; first | exact ov_chg hlt (hx hlt) | exact le_bool (decide_eq_true (by omega)) | exact le_bool (decide_eq_false (by omega)) | exact ov_B (by assumption) | exact ov_B (by simp only [Bool.not_eq_false] at *; assumption) | exact ov_Eb (by simpa using c7) | exact le_bool rfl)) ⟨by first | (rw [hno hm (lt_map h11)]; done) | rw [hend h11], rfl⟩
      · skip
        exact WK.fin ok 1000 0 [(16, RV.iptr (DV.agg [DV.str x.1, DV.lst 3 (List.map vD x.2) false, DV.lst 3 (List.map vD x.3) false, DV.lst 3 (List.map vD x.4) false]) 0), (21, RV.d (DV.bool false)), (22, RV.d (DV.bool false)), (26, RV.d (DV.bool false)), (28, RV.d (DV.bool false)), (32, RV.d (DV.bool true)), (34, RV.d (DV.bool true)), (40, RV.d (DV.bool true)), (46, RV.d (DV.bool true)), (52, RV.d (DV.bool true)), (59, RV.d (DV.bool true)), (72, RV.d (DV.bool true)), (11, RV.d (DV.bool false))] [] [(RV.d (DV.bool (decide ((Nat.cast (R := Int) i) < (Nat.cast (R := Int) (l.map chD).length)))), RV.d (DV.bool false))] rfl (by kernel_rfl : runEnd (cfT ta) true _ 1000 0 _ _ (maS (l.map chD) i) = some (RV.d (DV.bool true), [], _, _)) trivial ⟨le_bool h11, trivial⟩ ⟨by first | (rw [hno hm (lt_map h11)]; done) | rw [hend h11], rfl⟩
    by_cases c4 : rowB x.k = false
    · have hm : mayC x = false := may_no (by first | exact .inl c4 | exact .inr (.inl c4) | exact .inr (.inr (.inl c4)) | exact .inr (.inr (.inr (.inl c4))) | exact .inr (.inr (.inr (.inr (.inl c4)))) | exact .inr (.inr (.inr (.inr (.inr (.inl c4))))) | exact .inr (.inr (.inr (.inr (.inr (.inr c4))))))
      rcases Bool.eq_false_or_eq_true (decide ((Nat.cast (R := Int) i) < (Nat.cast (R := Int) (l.map chD).length)) : Bool) with h11 | h11
      · skip
        exact WK.fin ok 1000 0 [(16, RV.iptr (DV.agg [DV.str x.1, DV.lst 3 (List.map vD x.2) false, DV.lst 3 (List.map vD x.3) false, DV.lst 3 (List.map vD x.4) false]) 0), (21, RV.d (DV.bool false)), (22, RV.d (DV.bool false)), (26, RV.d (DV.bool false)), (28, RV.d (DV.bool false)), (32, RV.d (DV.bool false)), (34, RV.d (DV.bool false)), (37, RV.d (DV.bool false)), (40, RV.d (DV.bool true)), (46, RV.d (DV.bool true)), (52, RV.d (DV.bool true)), (59, RV.d (DV.bool true)), (72, RV.d (DV.bool true)), (11, RV.d (DV.bool true))] [decide (0 ≤ (Nat.cast (R := Int) i) ∧ (Nat.cast (R := Int) i) < (Nat.cast (R := Int) (l.map chD).length)), isR (DV.lst 3 (List.map vD x.2) false)] [(RV.d (DV.bool (decide ((Nat.cast (R := Int) i) < (Nat.cast (R := Int) (l.map chD).length)))), RV.d (DV.bool true)), (RV.iptr ((l.map chD).getD (Nat.cast (R := Int) i).toNat DV.nilp) 0, RV.iptr (DV.agg [DV.str x.1, DV.lst 3 (List.map vD x.2) false, DV.lst 3 (List.map vD x.3) false, DV.lst 3 (List.map vD x.4) false]) 0), (RV.d (DV.bool (decide ((Nat.cast (R := Int) (List.length x.t)) < 1))), RV.d (DV.bool false)), (RV.d (DV.bool false), RV.d (DV.bool false)), (RV.d (DV.bool (decide (32 < (Nat.cast (R := Int) (List.length x.t))))), RV.d (DV.bool false)), (RV.d (DV.bool false), RV.d (DV.bool false)), (RV.d (DV.bool (decide ((Nat.cast (R := Int) (List.map vD x.k).length) < 1))), RV.d (DV.bool false)), (RV.d (DV.bool false), RV.d (DV.bool false)), (RV.d (DV.bool (Plain.rowB (unR (rD x.k)))), RV.d (DV.bool false)), (RV.d (DV.bool true), RV.d (DV.bool true)), (RV.d (DV.bool true), RV.d (DV.bool true)), (RV.d (DV.bool true), RV.d (DV.bool true)), (RV.d (DV.bool true), RV.d (DV.bool true)), (RV.d (DV.bool true), RV.d (DV.bool true))] rfl (by kernel_rfl : runEnd (cfT ta) true _ 1000 0 _ _ (maS (l.map chD) i) = some (RV.d (DV.bool false), [], _, _)) (by refine ⟨?_, ?_, trivial⟩ <;> (have hlt := lt_map h11; first | exact bd_map hlt | exact ok_k (hxo hlt) | exact ok_o (hxo hlt) | exact ok_n (hxo hlt))) (by refine ⟨le_bool h11, ?_, ?_, ?_, ?_, ?_, ?_, ?_, ?_, ?_, ?_, ?_, ?_, ?_, trivial⟩ <;> (have hlt := lt_map h11; first | exact ov_chg hlt (hx hlt) | exact le_bool (decide_eq_true (by omega)) | exact le_bool (decide_eq_false (by omega)) | exact ov_B (by assumption) | exact ov_B (by simp only [Bool.not_eq_false] at *; assumption) | exact ov_Eb (by simpa using c7) | exact le_bool rfl)) ⟨by first | (rw [hno hm (lt_map h11)]; done) | rw [hend h11], rfl⟩
      · skip
        exact WK.fin ok 1000 0 [(16, RV.iptr (DV.agg [DV.str x.1, DV.lst 3 (List.map vD x.2) false, DV.lst 3 (List.map vD x.3) false, DV.lst 3 (List.map vD x.4) false]) 0), (21, RV.d (DV.bool false)), (22, RV.d (DV.bool false)), (26, RV.d (DV.bool false)), (28, RV.d (DV.bool false)), (32, RV.d (DV.bool false)), (34, RV.d (DV.bool false)), (37, RV.d (DV.bool false)), (40, RV.d (DV.bool true)), (46, RV.d (DV.bool true)), (52, RV.d (DV.bool true)), (59, RV.d (DV.bool true)), (72, RV.d (DV.bool true)), (11, RV.d (DV.bool false))] [] [(RV.d (DV.bool (decide ((Nat.cast (R := Int) i) < (Nat.cast (R := Int) (l.map chD).length)))), RV.d (DV.bool false))] rfl (by kernel_rfl : runEnd (cfT ta) true _ 1000 0 _ _ (maS (l.map chD) i) = some (RV.d (DV.bool true), [], _, _)) trivial ⟨le_bool h11, trivial⟩ ⟨by first | (rw [hno hm (lt_map h11)]; done) | rw [hend h11], rfl⟩
    by_cases c5 : rowB x.o = false
    · have hm : mayC x = false := may_no (by first | exact .inl c5 | exact .inr (.inl c5) | exact .inr (.inr (.inl c5)) | exact .inr (.inr (.inr (.inl c5))) | exact .inr (.inr (.inr (.inr (.inl c5)))) | exact .inr (.inr (.inr (.inr (.inr (.inl c5))))) | exact .inr (.inr (.inr (.inr (.inr (.inr c5))))))
      rcases Bool.eq_false_or_eq_true (decide ((Nat.cast (R := Int) i) < (Nat.cast (R := Int) (l.map chD).length)) : Bool) with h11 | h11
      · skip
        exact WK.fin ok 1000 0 [(16, RV.iptr (DV.agg [DV.str x.1, DV.lst 3 (List.map vD x.2) false, DV.lst 3 (List.map vD x.3) false, DV.lst 3 (List.map vD x.4) false]) 0), (21, RV.d (DV.bool false)), (22, RV.d (DV.bool false)), (26, RV.d (DV.bool false)), (28, RV.d (DV.bool false)), (32, RV.d (DV.bool false)), (34, RV.d (DV.bool false)), (37, RV.d (DV.bool true)), (40, RV.d (DV.bool false)), (43, RV.d (DV.bool false)), (46, RV.d (DV.bool true)), (52, RV.d (DV.bool true)), (59, RV.d (DV.bool true)), (72, RV.d (DV.bool true)), (11, RV.d (DV.bool true))] [decide (0 ≤ (Nat.cast (R := Int) i) ∧ (Nat.cast (R := Int) i) < (Nat.cast (R := Int) (l.map chD).length)), isR (DV.lst 3 (List.map vD x.2) false), isR (DV.lst 3 (List.map vD x.3) false)] [(RV.d (DV.bool (decide ((Nat.cast (R := Int) i) < (Nat.cast (R := Int) (l.map chD).length)))), RV.d (DV.bool true)), (RV.iptr ((l.map chD).getD (Nat.cast (R := Int) i).toNat DV.nilp) 0, RV.iptr (DV.agg [DV.str x.1, DV.lst 3 (List.map vD x.2) false, DV.lst 3 (List.map vD x.3) false, DV.lst 3 (List.map vD x.4) false]) 0), (RV.d (DV.bool (decide ((Nat.cast (R := Int) (List.length x.t)) < 1))), RV.d (DV.bool false)), (RV.d (DV.bool false), RV.d (DV.bool false)), (RV.d (DV.bool (decide (32 < (Nat.cast (R := Int) (List.length x.t))))), RV.d (DV.bool false)), (RV.d (DV.bool false), RV.d (DV.bool false)), (RV.d (DV.bool (decide ((Nat.cast (R := Int) (List.map vD x.k).length) < 1))), RV.d (DV.bool false)), (RV.d (DV.bool false), RV.d (DV.bool false)), (RV.d (DV.bool (Plain.rowB (unR (rD x.k)))), RV.d (DV.bool true)), (RV.d (DV.bool false), RV.d (DV.bool false)), (RV.d (DV.bool (Plain.rowB (unR (rD x.o)))), RV.d (DV.bool false)), (RV.d (DV.bool true), RV.d (DV.bool true)), (RV.d (DV.bool true), RV.d (DV.bool true)), (RV.d (DV.bool true), RV.d (DV.bool true)), (RV.d (DV.bool true), RV.d (DV.bool true))] rfl (by kernel_rfl : runEnd (cfT ta) true _ 1000 0 _ _ (maS (l.map chD) i) = some (RV.d (DV.bool false), [], _, _)) (by refine ⟨?_, ?_, ?_, trivial⟩ <;> (have hlt := lt_map h11; first | exact bd_map hlt | exact ok_k (hxo hlt) | exact ok_o (hxo hlt) | exact ok_n (hxo hlt))) (by refine ⟨le_bool h11, ?_, ?_, ?_, ?_, ?_, ?_, ?_, ?_, ?_, ?_, ?_, ?_, ?_, ?_, trivial⟩ <;> (have hlt := lt_map h11; first | exact ov_chg hlt (hx hlt) | exact le_bool (decide_eq_true (by omega)) | exact le_bool (decide_eq_false (by omega)) | exact ov_B (by assumption) | exact ov_B (by simp only [Bool.not_eq_false] at *; assumption) | exact ov_Eb (by simpa using c7) | exact le_bool rfl)) ⟨by first | (rw [hno hm (lt_map h11)]; done) | rw [hend h11], rfl⟩
      · skip
        exact WK.fin ok 1000 0 [(16, RV.iptr (DV.agg [DV.str x.1, DV.lst 3 (List.map vD x.2) false, DV.lst 3 (List.map vD x.3) false, DV.lst 3 (List.map vD x.4) false]) 0), (21, RV.d (DV.bool false)), (22, RV.d (DV.bool false)), (26, RV.d (DV.bool false)), (28, RV.d (DV.bool false)), (32, RV.d (DV.bool false)), (34, RV.d (DV.bool false)), (37, RV.d (DV.bool true)), (40, RV.d (DV.bool false)), (43, RV.d (DV.bool false)), (46, RV.d (DV.bool true)), (52, RV.d (DV.bool true)), (59, RV.d (DV.bool true)), (72, RV.d (DV.bool true)), (11, RV.d (DV.bool false))] [] [(RV.d (DV.bool (decide ((Nat.cast (R := Int) i) < (Nat.cast (R := Int) (l.map chD).length)))), RV.d (DV.bool false))] rfl (by kernel_rfl : runEnd (cfT ta) true _ 1000 0 _ _ (maS (l.map chD) i) = some (RV.d (DV.bool true), [], _, _)) trivial ⟨le_bool h11, trivial⟩ ⟨by first | (rw [hno hm (lt_map h11)]; done) | rw [hend h11], rfl⟩
    by_cases c6 : rowB x.n = false
    · have hm : mayC x = false := may_no (by first | exact .inl c6 | exact .inr (.inl c6) | exact .inr (.inr (.inl c6)) | exact .inr (.inr (.inr (.inl c6))) | exact .inr (.inr (.inr (.inr (.inl c6)))) | exact .inr (.inr (.inr (.inr (.inr (.inl c6))))) | exact .inr (.inr (.inr (.inr (.inr (.inr c6))))))
      rcases Bool.eq_false_or_eq_true (decide ((Nat.cast (R := Int) i) < (Nat.cast (R := Int) (l.map chD).length)) : Bool) with h11 | h11
      · skip
        exact WK.fin ok 1000 0 [(16, RV.iptr (DV.agg [DV.str x.1, DV.lst 3 (List.map vD x.2) false, DV.lst 3 (List.map vD x.3) false, DV.lst 3 (List.map vD x.4) false]) 0), (21, RV.d (DV.bool false)), (22, RV.d (DV.bool false)), (26, RV.d (DV.bool false)), (28, RV.d (DV.bool false)), (32, RV.d (DV.bool false)), (34, RV.d (DV.bool false)), (37, RV.d (DV.bool true)), (40, RV.d (DV.bool false)), (43, RV.d (DV.bool true)), (46, RV.d (DV.bool false)), (49, RV.d (DV.bool false)), (52, RV.d (DV.bool true)), (59, RV.d (DV.bool true)), (72, RV.d (DV.bool true)), (11, RV.d (DV.bool true))] [decide (0 ≤ (Nat.cast (R := Int) i) ∧ (Nat.cast (R := Int) i) < (Nat.cast (R := Int) (l.map chD).length)), isR (DV.lst 3 (List.map vD x.2) false), isR (DV.lst 3 (List.map vD x.3) false), isR (DV.lst 3 (List.map vD x.4) false)] [(RV.d (DV.bool (decide ((Nat.cast (R := Int) i) < (Nat.cast (R := Int) (l.map chD).length)))), RV.d (DV.bool true)), (RV.iptr ((l.map chD).getD (Nat.cast (R := Int) i).toNat DV.nilp) 0, RV.iptr (DV.agg [DV.str x.1, DV.lst 3 (List.map vD x.2) false, DV.lst 3 (List.map vD x.3) false, DV.lst 3 (List.map vD x.4) false]) 0), (RV.d (DV.bool (decide ((Nat.cast (R := Int) (List.length x.t)) < 1))), RV.d (DV.bool false)), (RV.d (DV.bool false), RV.d (DV.bool false)), (RV.d (DV.bool (decide (32 < (Nat.cast (R := Int) (List.length x.t))))), RV.d (DV.bool false)), (RV.d (DV.bool false), RV.d (DV.bool false)), (RV.d (DV.bool (decide ((Nat.cast (R := Int) (List.map vD x.k).length) < 1))), RV.d (DV.bool false)), (RV.d (DV.bool false), RV.d (DV.bool false)), (RV.d (DV.bool (Plain.rowB (unR (rD x.k)))), RV.d (DV.bool true)), (RV.d (DV.bool false), RV.d (DV.bool false)), (RV.d (DV.bool (Plain.rowB (unR (rD x.o)))), RV.d (DV.bool true)), (RV.d (DV.bool false), RV.d (DV.bool false)), (RV.d (DV.bool (Plain.rowB (unR (rD x.n)))), RV.d (DV.bool false)), (RV.d (DV.bool true), RV.d (DV.bool true)), (RV.d (DV.bool true), RV.d (DV.bool true)), (RV.d (DV.bool true), RV.d (DV.bool true))] rfl (by kernel_rfl : runEnd (cfT ta) true _ 1000 0 _ _ (maS (l.map chD) i) = some (RV.d (DV.bool false), [], _, _)) (by refine ⟨?_, ?_, ?_, ?_, trivial⟩ <;> (have hlt := lt_map h11; first | exact bd_map hlt | exact ok_k (hxo hlt) | exact ok_o (hxo hlt) | exact ok_n (hxo hlt))) (by refine ⟨le_bool h11, ?_, ?_, ?_, ?_, ?_, ?_, ?_, ?_, ?_, ?_, ?_, ?_, ?_, ?_, ?_, trivial⟩ <;> (have hlt := lt_map h11; first | exact ov_chg hlt (hx hlt) | exact le_bool (decide_eq_true (by omega)) | exact le_bool (decide_eq_false (by omega)) | exact ov_B (by assumption) | exact ov_B (by simp only [Bool.not_eq_false] at *; assumption) | exact ov_Eb (by simpa using c7) | exact le_bool rfl)) ⟨by first | (rw [hno hm (lt_map h11)]; done) | rw [hend h11], rfl⟩
      · skip
        exact WK.fin ok 1000 0 [(16, RV.iptr (DV.agg [DV.str x.1, DV.lst 3 (List.map vD x.2) false, DV.lst 3 (List.map vD x.3) false, DV.lst 3 (List.map vD x.4) false]) 0), (21, RV.d (DV.bool false)), (22, RV.d (DV.bool false)), (26, RV.d (DV.bool false)), (28, RV.d (DV.bool false)), (32, RV.d (DV.bool false)), (34, RV.d (DV.bool false)), (37, RV.d (DV.bool true)), (40, RV.d (DV.bool false)), (43, RV.d (DV.bool true)), (46, RV.d (DV.bool false)), (49, RV.d (DV.bool false)), (52, RV.d (DV.bool true)), (59, RV.d (DV.bool true)), (72, RV.d (DV.bool true)), (11, RV.d (DV.bool false))] [] [(RV.d (DV.bool (decide ((Nat.cast (R := Int) i) < (Nat.cast (R := Int) (l.map chD).length)))), RV.d (DV.bool false))] rfl (by kernel_rfl : runEnd (cfT ta) true _ 1000 0 _ _ (maS (l.map chD) i) = some (RV.d (DV.bool true), [], _, _)) trivial ⟨le_bool h11, trivial⟩ ⟨by first | (rw [hno hm (lt_map h11)]; done) | rw [hend h11], rfl⟩
    by_cases c7 : x.o = x.n
    · have hm : mayC x = false := may_no (by first | exact .inl c7 | exact .inr (.inl c7) | exact .inr (.inr (.inl c7)) | exact .inr (.inr (.inr (.inl c7))) | exact .inr (.inr (.inr (.inr (.inl c7)))) | exact .inr (.inr (.inr (.inr (.inr (.inl c7))))) | exact .inr (.inr (.inr (.inr (.inr (.inr c7))))))
      rcases Bool.eq_false_or_eq_true (decide ((Nat.cast (R := Int) i) < (Nat.cast (R := Int) (l.map chD).length)) : Bool) with h11 | h11
      · skip
        exact WK.fin ok 1000 0 [(16, RV.iptr (DV.agg [DV.str x.1, DV.lst 3 (List.map vD x.2) false, DV.lst 3 (List.map vD x.3) false, DV.lst 3 (List.map vD x.4) false]) 0), (21, RV.d (DV.bool false)), (22, RV.d (DV.bool false)), (26, RV.d (DV.bool false)), (28, RV.d (DV.bool false)), (32, RV.d (DV.bool false)), (34, RV.d (DV.bool false)), (37, RV.d (DV.bool true)), (40, RV.d (DV.bool false)), (43, RV.d (DV.bool true)), (46, RV.d (DV.bool false)), (49, RV.d (DV.bool true)), (52, RV.d (DV.bool false)), (57, RV.d (DV.bool true)), (59, RV.d (DV.bool true)), (72, RV.d (DV.bool true)), (11, RV.d (DV.bool true))] [decide (0 ≤ (Nat.cast (R := Int) i) ∧ (Nat.cast (R := Int) i) < (Nat.cast (R := Int) (l.map chD).length)), isR (DV.lst 3 (List.map vD x.2) false), isR (DV.lst 3 (List.map vD x.3) false), isR (DV.lst 3 (List.map vD x.4) false), isR (DV.lst 3 (List.map vD x.3) false), isR (DV.lst 3 (List.map vD x.4) false)] [(RV.d (DV.bool (decide ((Nat.cast (R := Int) i) < (Nat.cast (R := Int) (l.map chD).length)))), RV.d (DV.bool true)), (RV.iptr ((l.map chD).getD (Nat.cast (R := Int) i).toNat DV.nilp) 0, RV.iptr (DV.agg [DV.str x.1, DV.lst 3 (List.map vD x.2) false, DV.lst 3 (List.map vD x.3) false, DV.lst 3 (List.map vD x.4) false]) 0), (RV.d (DV.bool (decide ((Nat.cast (R := Int) (List.length x.t)) < 1))), RV.d (DV.bool false)), (RV.d (DV.bool false), RV.d (DV.bool false)), (RV.d (DV.bool (decide (32 < (Nat.cast (R := Int) (List.length x.t))))), RV.d (DV.bool false)), (RV.d (DV.bool false), RV.d (DV.bool false)), (RV.d (DV.bool (decide ((Nat.cast (R := Int) (List.map vD x.k).length) < 1))), RV.d (DV.bool false)), (RV.d (DV.bool false), RV.d (DV.bool false)), (RV.d (DV.bool (Plain.rowB (unR (rD x.k)))), RV.d (DV.bool true)), (RV.d (DV.bool false), RV.d (DV.bool false)), (RV.d (DV.bool (Plain.rowB (unR (rD x.o)))), RV.d (DV.bool true)), (RV.d (DV.bool false), RV.d (DV.bool false)), (RV.d (DV.bool (Plain.rowB (unR (rD x.n)))), RV.d (DV.bool true)), (RV.d (DV.bool false), RV.d (DV.bool false)), (RV.d (DV.bool (decide (unR (rD x.o) = unR (rD x.n)))), RV.d (DV.bool true)), (RV.d (DV.bool true), RV.d (DV.bool true)), (RV.d (DV.bool true), RV.d (DV.bool true))] rfl (by kernel_rfl : runEnd (cfT ta) true _ 1000 0 _ _ (maS (l.map chD) i) = some (RV.d (DV.bool false), [], _, _)) (by refine ⟨?_, ?_, ?_, ?_, ?_, ?_, trivial⟩ <;> (have hlt := lt_map h11; first | exact bd_map hlt | exact ok_k (hxo hlt) | exact ok_o (hxo hlt) | exact ok_n (hxo hlt))) (by refine ⟨le_bool h11, ?_, ?_, ?_, ?_, ?_, ?_, ?_, ?_, ?_, ?_, ?_, ?_, ?_, ?_, ?_, ?_, trivial⟩ <;> (have hlt := lt_map h11; first | exact ov_chg hlt (hx hlt) | exact le_bool (decide_eq_true (by omega)) | exact le_bool (decide_eq_false (by omega)) | exact ov_B (by assumption) | exact ov_B (by simp only [Bool.not_eq_false] at *; assumption) | exact ov_Eb (by simpa using c7) | exact le_bool rfl)) ⟨by first | (rw [hno hm (lt_map h11)]; done) | rw [hend h11], rfl⟩
      · skip
        exact WK.fin ok 1000 0 [(16, RV.iptr (DV.agg [DV.str x.1, DV.lst 3 (List.map vD x.2) false, DV.lst 3 (List.map vD x.3) false, DV.lst 3 (List.map vD x.4) false]) 0), (21, RV.d (DV.bool false)), (22, RV.d (DV.bool false)), (26, RV.d (DV.bool false)), (28, RV.d (DV.bool false)), (32, RV.d (DV.bool false)), (34, RV.d (DV.bool false)), (37, RV.d (DV.bool true)), (40, RV.d (DV.bool false)), (43, RV.d (DV.bool true)), (46, RV.d (DV.bool false)), (49, RV.d (DV.bool true)), (52, RV.d (DV.bool false)), (57, RV.d (DV.bool true)), (59, RV.d (DV.bool true)), (72, RV.d (DV.bool true)), (11, RV.d (DV.bool false))] [] [(RV.d (DV.bool (decide ((Nat.cast (R := Int) i) < (Nat.cast (R := Int) (l.map chD).length)))), RV.d (DV.bool false))] rfl (by kernel_rfl : runEnd (cfT ta) true _ 1000 0 _ _ (maS (l.map chD) i) = some (RV.d (DV.bool true), [], _, _)) trivial ⟨le_bool h11, trivial⟩ ⟨by first | (rw [hno hm (lt_map h11)]; done) | rw [hend h11], rfl⟩

    have hm : mayC x = true := by
      simp only [Bool.not_eq_false] at c4 c5 c6
      simp only [mayC, c4, c5, c6, c7, decide_false, Bool.not_false, Bool.and_true, Bool.and_eq_true, decide_eq_true_eq]
      omega
    cases i with
    | zero =>
      rcases Bool.eq_false_or_eq_true (decide ((Nat.cast (R := Int) 0) < (Nat.cast (R := Int) (l.map chD).length)) : Bool) with h11 | h11
      · skip
        refine WK.segA ok 1000 0 [(16, RV.iptr (DV.agg [DV.str x.1, DV.lst 3 (List.map vD x.2) false, DV.lst 3 (List.map vD x.3) false, DV.lst 3 (List.map vD x.4) false]) 0), (21, RV.d (DV.bool false)), (22, RV.d (DV.bool false)), (26, RV.d (DV.bool false)), (28, RV.d (DV.bool false)), (32, RV.d (DV.bool false)), (34, RV.d (DV.bool false)), (37, RV.d (DV.bool true)), (40, RV.d (DV.bool false)), (43, RV.d (DV.bool true)), (46, RV.d (DV.bool false)), (49, RV.d (DV.bool true)), (52, RV.d (DV.bool false)), (57, RV.d (DV.bool false)), (59, RV.d (DV.bool false)), (61, RV.d (DV.bool false)), (62, RV.d (DV.bool false)), (72, RV.d (DV.bool false)), (13, RV.d (DV.int Go.IntKind.i64 (Nat.cast (R := Int) (0 + 1)))), (11, RV.d (DV.bool true))] [] [0, 3] [decide (0 ≤ (Nat.cast (R := Int) 0) ∧ (Nat.cast (R := Int) 0) < (Nat.cast (R := Int) (l.map chD).length)), isR (DV.lst 3 (List.map vD x.2) false), isR (DV.lst 3 (List.map vD x.3) false), isR (DV.lst 3 (List.map vD x.4) false), isR (DV.lst 3 (List.map vD x.3) false), isR (DV.lst 3 (List.map vD x.4) false)] [(RV.d (DV.bool (decide ((Nat.cast (R := Int) 0) < (Nat.cast (R := Int) (l.map chD).length)))), RV.d (DV.bool true)), (RV.iptr ((l.map chD).getD (Nat.cast (R := Int) 0).toNat DV.nilp) 0, RV.iptr (DV.agg [DV.str x.1, DV.lst 3 (List.map vD x.2) false, DV.lst 3 (List.map vD x.3) false, DV.lst 3 (List.map vD x.4) false]) 0), (RV.d (DV.bool (decide ((Nat.cast (R := Int) (List.length x.t)) < 1))), RV.d (DV.bool false)), (RV.d (DV.bool false), RV.d (DV.bool false)), (RV.d (DV.bool (decide (32 < (Nat.cast (R := Int) (List.length x.t))))), RV.d (DV.bool false)), (RV.d (DV.bool false), RV.d (DV.bool false)), (RV.d (DV.bool (decide ((Nat.cast (R := Int) (List.map vD x.k).length) < 1))), RV.d (DV.bool false)), (RV.d (DV.bool false), RV.d (DV.bool false)), (RV.d (DV.bool (Plain.rowB (unR (rD x.k)))), RV.d (DV.bool true)), (RV.d (DV.bool false), RV.d (DV.bool false)), (RV.d (DV.bool (Plain.rowB (unR (rD x.o)))), RV.d (DV.bool true)), (RV.d (DV.bool false), RV.d (DV.bool false)), (RV.d (DV.bool (Plain.rowB (unR (rD x.n)))), RV.d (DV.bool true)), (RV.d (DV.bool false), RV.d (DV.bool false)), (RV.d (DV.bool (decide (unR (rD x.o) = unR (rD x.n)))), RV.d (DV.bool false)), (RV.d (DV.bool false), RV.d (DV.bool false)), (RV.d (DV.bool (decide (0 < (Nat.cast (R := Int) 0)))), RV.d (DV.bool false)), (RV.d (DV.bool false), RV.d (DV.bool false)), (RV.d (DV.bool false), RV.d (DV.bool false)), (RV.d (DV.int Go.IntKind.i64 (Go.IntKind.i64.wrap ((Nat.cast (R := Int) 0) + 1))), RV.d (DV.int Go.IntKind.i64 (Nat.cast (R := Int) (0 + 1))))] rfl (by kernel_rfl : runSegA (cfT ta) 1000 0 _ _ _ _ (maS (l.map chD) 0) = some (stackAt maC 0, maS (l.map chD) (0 + 1), _, _)) (by refine ⟨?_, ?_, ?_, ?_, ?_, ?_, trivial⟩ <;> (have hlt := lt_map h11; first | exact bd_map (i := 0) hlt | exact ok_k (hxo hlt) | exact ok_o (hxo hlt) | exact ok_n (hxo hlt))) (by refine ⟨le_bool h11, ?_, ?_, ?_, ?_, ?_, ?_, ?_, ?_, ?_, ?_, ?_, ?_, ?_, ?_, ?_, ?_, ?_, ?_, ?_, trivial⟩ <;> (have hlt := lt_map h11; first | exact ov_chg (i := 0) hlt (hx hlt) | exact le_bool (decide_eq_true (by omega)) | exact le_bool (decide_eq_false (by omega)) | exact ov_B (by simp only [Bool.not_eq_false] at *; assumption) | exact ov_Eb (by simpa using c7) | exact ov_succ (by omega) | exact le_bool rfl)) ?_
        have hlt := lt_map h11
        refine ih (0 + 1) ⟨hlt, ?_, ?_⟩ (by omega)
        · rw [hstep hlt, hm]; simp [ahead]
        · intro y hy; rw [ahead, List.getElem?_eq_getElem hlt, hx hlt] at hy; injection hy with hy; rw [← hy]; exact hm
      · skip
        exact WK.fin ok 1000 0 [(16, RV.iptr (DV.agg [DV.str x.1, DV.lst 3 (List.map vD x.2) false, DV.lst 3 (List.map vD x.3) false, DV.lst 3 (List.map vD x.4) false]) 0), (21, RV.d (DV.bool false)), (22, RV.d (DV.bool false)), (26, RV.d (DV.bool false)), (28, RV.d (DV.bool false)), (32, RV.d (DV.bool false)), (34, RV.d (DV.bool false)), (37, RV.d (DV.bool true)), (40, RV.d (DV.bool false)), (43, RV.d (DV.bool true)), (46, RV.d (DV.bool false)), (49, RV.d (DV.bool true)), (52, RV.d (DV.bool false)), (57, RV.d (DV.bool false)), (59, RV.d (DV.bool false)), (61, RV.d (DV.bool false)), (62, RV.d (DV.bool false)), (72, RV.d (DV.bool false)), (13, RV.d (DV.int Go.IntKind.i64 (Nat.cast (R := Int) (0 + 1)))), (11, RV.d (DV.bool false))] [] [(RV.d (DV.bool (decide ((Nat.cast (R := Int) 0) < (Nat.cast (R := Int) (l.map chD).length)))), RV.d (DV.bool false))] rfl (by kernel_rfl : runEnd (cfT ta) true _ 1000 0 _ _ (maS (l.map chD) 0) = some (RV.d (DV.bool true), [], _, _)) trivial ⟨le_bool h11, trivial⟩ ⟨by rw [hend h11], rfl⟩
    | succ m =>
      obtain ⟨y, hy⟩ := at_chg l m
      have hah : m < l.length → ahead l (m + 1) = some y := fun h => by rw [ahead, List.getElem?_eq_getElem h, hy h]
      have hyo : m < l.length → Chg.ok y := fun h => by rw [← hy h]; exact hok _ (List.getElem_mem h)
      have hym : m < l.length → smC y = true := fun h => smC_of (hpr y (hah h))
      have hbad : m + 1 < l.length → 0 ≤ cmpC y x → mayI none l = false := fun h e => by
        rw [hstep h, hah (by omega)]
        simp only
        rw [decide_eq_false (by omega : ¬ cmpC y x < 0), Bool.and_false, Bool.false_and]
      rcases Bool.eq_false_or_eq_true (decide ((Nat.cast (R := Int) (m + 1)) < (Nat.cast (R := Int) (l.map chD).length)) : Bool) with h11 | h11
      · skip
        rcases Bool.eq_false_or_eq_true (decide (0 ≤ Plain.cmpC y x) : Bool) with h72 | h72
        · skip
          exact WK.fin ok 1000 0 [(16, RV.iptr (DV.agg [DV.str x.1, DV.lst 3 (List.map vD x.2) false, DV.lst 3 (List.map vD x.3) false, DV.lst 3 (List.map vD x.4) false]) 0), (21, RV.d (DV.bool false)), (22, RV.d (DV.bool false)), (26, RV.d (DV.bool false)), (28, RV.d (DV.bool false)), (32, RV.d (DV.bool false)), (34, RV.d (DV.bool false)), (37, RV.d (DV.bool true)), (40, RV.d (DV.bool false)), (43, RV.d (DV.bool true)), (46, RV.d (DV.bool false)), (49, RV.d (DV.bool true)), (52, RV.d (DV.bool false)), (57, RV.d (DV.bool false)), (59, RV.d (DV.bool false)), (61, RV.d (DV.bool true)), (62, RV.d (DV.bool true)), (65, RV.d (DV.int Go.IntKind.i64 (Nat.cast (R := Int) m))), (66, RV.iptr (DV.agg [DV.str y.1, DV.lst 3 (List.map vD y.2) false, DV.lst 3 (List.map vD y.3) false, DV.lst 3 (List.map vD y.4) false]) 0), (69, RV.d (DV.int Go.IntKind.i64 (Plain.cmpC y x))), (13, RV.d (DV.int Go.IntKind.i64 (Nat.cast (R := Int) ((m + 1) + 1)))), (11, RV.d (DV.bool true)), (72, RV.d (DV.bool true))] [decide (0 ≤ (Nat.cast (R := Int) (m + 1)) ∧ (Nat.cast (R := Int) (m + 1)) < (Nat.cast (R := Int) (l.map chD).length)), isR (DV.lst 3 (List.map vD x.2) false), isR (DV.lst 3 (List.map vD x.3) false), isR (DV.lst 3 (List.map vD x.4) false), isR (DV.lst 3 (List.map vD x.3) false), isR (DV.lst 3 (List.map vD x.4) false), decide (0 ≤ (Nat.cast (R := Int) m) ∧ (Nat.cast (R := Int) m) < (Nat.cast (R := Int) (l.map chD).length)), isC (DV.agg (List.take 4 (List.drop 0 (DV.agg [DV.str y.1, DV.lst 3 (List.map vD y.2) false, DV.lst 3 (List.map vD y.3) false, DV.lst 3 (List.map vD y.4) false]).cells))), isC (DV.agg [DV.str x.1, DV.lst 3 (List.map vD x.2) false, DV.lst 3 (List.map vD x.3) false, DV.lst 3 (List.map vD x.4) false]), smC { t := y.1, k := List.map toVal (List.map vD y.k), o := List.map toVal (List.map vD y.o), n := List.map toVal (List.map vD y.n) }, smC { t := x.1, k := List.map toVal (List.map vD x.k), o := List.map toVal (List.map vD x.o), n := List.map toVal (List.map vD x.n) }] [(RV.d (DV.bool (decide ((Nat.cast (R := Int) (m + 1)) < (Nat.cast (R := Int) (l.map chD).length)))), RV.d (DV.bool true)), (RV.iptr ((l.map chD).getD (Nat.cast (R := Int) (m + 1)).toNat DV.nilp) 0, RV.iptr (DV.agg [DV.str x.1, DV.lst 3 (List.map vD x.2) false, DV.lst 3 (List.map vD x.3) false, DV.lst 3 (List.map vD x.4) false]) 0), (RV.d (DV.bool (decide ((Nat.cast (R := Int) (List.length x.t)) < 1))), RV.d (DV.bool false)), (RV.d (DV.bool false), RV.d (DV.bool false)), (RV.d (DV.bool (decide (32 < (Nat.cast (R := Int) (List.length x.t))))), RV.d (DV.bool false)), (RV.d (DV.bool false), RV.d (DV.bool false)), (RV.d (DV.bool (decide ((Nat.cast (R := Int) (List.map vD x.k).length) < 1))), RV.d (DV.bool false)), (RV.d (DV.bool false), RV.d (DV.bool false)), (RV.d (DV.bool (Plain.rowB (unR (rD x.k)))), RV.d (DV.bool true)), (RV.d (DV.bool false), RV.d (DV.bool false)), (RV.d (DV.bool (Plain.rowB (unR (rD x.o)))), RV.d (DV.bool true)), (RV.d (DV.bool false), RV.d (DV.bool false)), (RV.d (DV.bool (Plain.rowB (unR (rD x.n)))), RV.d (DV.bool true)), (RV.d (DV.bool false), RV.d (DV.bool false)), (RV.d (DV.bool (decide (unR (rD x.o) = unR (rD x.n)))), RV.d (DV.bool false)), (RV.d (DV.bool false), RV.d (DV.bool false)), (RV.d (DV.bool (decide (0 < (Nat.cast (R := Int) (m + 1))))), RV.d (DV.bool true)), (RV.d (DV.bool true), RV.d (DV.bool true)), (RV.d (DV.int Go.IntKind.i64 (Go.IntKind.i64.wrap ((Nat.cast (R := Int) (m + 1)) - 1))), RV.d (DV.int Go.IntKind.i64 (Nat.cast (R := Int) m))), (RV.iptr ((l.map chD).getD (Nat.cast (R := Int) m).toNat DV.nilp) 0, RV.iptr (DV.agg [DV.str y.1, DV.lst 3 (List.map vD y.2) false, DV.lst 3 (List.map vD y.3) false, DV.lst 3 (List.map vD y.4) false]) 0), (RV.d (DV.int Go.IntKind.i64 (Plain.cmpC { t := y.1, k := List.map toVal (List.map vD y.k), o := List.map toVal (List.map vD y.o), n := List.map toVal (List.map vD y.n) } { t := x.1, k := List.map toVal (List.map vD x.k), o := List.map toVal (List.map vD x.o), n := List.map toVal (List.map vD x.n) })), RV.d (DV.int Go.IntKind.i64 (Plain.cmpC y x))), (RV.d (DV.bool (decide (0 ≤ Plain.cmpC y x))), RV.d (DV.bool true))] rfl (by kernel_rfl : runEnd (cfT ta) true _ 1000 0 _ _ (maS (l.map chD) (m + 1)) = some (RV.d (DV.bool false), [], _, _)) (by refine ⟨?_, ?_, ?_, ?_, ?_, ?_, ?_, ?_, ?_, ?_, ?_, trivial⟩ <;> (have hlt := lt_map h11; first | exact bd_map hlt | exact ok_k (hxo hlt) | exact ok_o (hxo hlt) | exact ok_n (hxo hlt) | exact bd_map (i := m) (by omega) | exact isC_chD (hxo hlt) | exact isC_chD (hyo (by omega)) | (rw [toChg_chD]; exact hym (by omega)) | (rw [toChg_chD]; exact smC_of hm) | (show smC (toChg (chD y)) = true; rw [toChg_chD]; exact hym (by omega)) | (show smC (toChg (chD x)) = true; rw [toChg_chD]; exact smC_of hm))) (by refine ⟨le_bool h11, ?_, ?_, ?_, ?_, ?_, ?_, ?_, ?_, ?_, ?_, ?_, ?_, ?_, ?_, ?_, ?_, ?_, ?_, ?_, ?_, le_bool h72, trivial⟩ <;> (have hlt := lt_map h11; first | exact ov_chg hlt (hx hlt) | exact le_bool h72 | exact le_bool (decide_eq_true (by omega)) | exact le_bool (decide_eq_false (by omega)) | exact ov_B (by simp only [Bool.not_eq_false] at *; assumption) | exact ov_Eb (by simpa using c7) | exact ov_succ (by omega) | exact ov_chg (i := m) (by omega) (hy (by omega)) | exact ov_C y x | (refine .of_eq ?_; rw [i64_in _ (by omega)]; congr 2; omega) | exact le_bool rfl)) ⟨by first | (rw [hend h11]; done) | rw [hbad (lt_map h11) (of_decide_eq_true h72)], rfl⟩
        · skip
          refine WK.segA ok 1000 0 [(16, RV.iptr (DV.agg [DV.str x.1, DV.lst 3 (List.map vD x.2) false, DV.lst 3 (List.map vD x.3) false, DV.lst 3 (List.map vD x.4) false]) 0), (21, RV.d (DV.bool false)), (22, RV.d (DV.bool false)), (26, RV.d (DV.bool false)), (28, RV.d (DV.bool false)), (32, RV.d (DV.bool false)), (34, RV.d (DV.bool false)), (37, RV.d (DV.bool true)), (40, RV.d (DV.bool false)), (43, RV.d (DV.bool true)), (46, RV.d (DV.bool false)), (49, RV.d (DV.bool true)), (52, RV.d (DV.bool false)), (57, RV.d (DV.bool false)), (59, RV.d (DV.bool false)), (61, RV.d (DV.bool true)), (62, RV.d (DV.bool true)), (65, RV.d (DV.int Go.IntKind.i64 (Nat.cast (R := Int) m))), (66, RV.iptr (DV.agg [DV.str y.1, DV.lst 3 (List.map vD y.2) false, DV.lst 3 (List.map vD y.3) false, DV.lst 3 (List.map vD y.4) false]) 0), (69, RV.d (DV.int Go.IntKind.i64 (Plain.cmpC y x))), (13, RV.d (DV.int Go.IntKind.i64 (Nat.cast (R := Int) ((m + 1) + 1)))), (11, RV.d (DV.bool true)), (72, RV.d (DV.bool false))] [] [0, 3] [decide (0 ≤ (Nat.cast (R := Int) (m + 1)) ∧ (Nat.cast (R := Int) (m + 1)) < (Nat.cast (R := Int) (l.map chD).length)), isR (DV.lst 3 (List.map vD x.2) false), isR (DV.lst 3 (List.map vD x.3) false), isR (DV.lst 3 (List.map vD x.4) false), isR (DV.lst 3 (List.map vD x.3) false), isR (DV.lst 3 (List.map vD x.4) false), decide (0 ≤ (Nat.cast (R := Int) m) ∧ (Nat.cast (R := Int) m) < (Nat.cast (R := Int) (l.map chD).length)), isC (DV.agg (List.take 4 (List.drop 0 (DV.agg [DV.str y.1, DV.lst 3 (List.map vD y.2) false, DV.lst 3 (List.map vD y.3) false, DV.lst 3 (List.map vD y.4) false]).cells))), isC (DV.agg [DV.str x.1, DV.lst 3 (List.map vD x.2) false, DV.lst 3 (List.map vD x.3) false, DV.lst 3 (List.map vD x.4) false]), smC { t := y.1, k := List.map toVal (List.map vD y.k), o := List.map toVal (List.map vD y.o), n := List.map toVal (List.map vD y.n) }, smC { t := x.1, k := List.map toVal (List.map vD x.k), o := List.map toVal (List.map vD x.o), n := List.map toVal (List.map vD x.n) }] [(RV.d (DV.bool (decide ((Nat.cast (R := Int) (m + 1)) < (Nat.cast (R := Int) (l.map chD).length)))), RV.d (DV.bool true)), (RV.iptr ((l.map chD).getD (Nat.cast (R := Int) (m + 1)).toNat DV.nilp) 0, RV.iptr (DV.agg [DV.str x.1, DV.lst 3 (List.map vD x.2) false, DV.lst 3 (List.map vD x.3) false, DV.lst 3 (List.map vD x.4) false]) 0), (RV.d (DV.bool (decide ((Nat.cast (R := Int) (List.length x.t)) < 1))), RV.d (DV.bool false)), (RV.d (DV.bool false), RV.d (DV.bool false)), (RV.d (DV.bool (decide (32 < (Nat.cast (R := Int) (List.length x.t))))), RV.d (DV.bool false)), (RV.d (DV.bool false), RV.d (DV.bool false)), (RV.d (DV.bool (decide ((Nat.cast (R := Int) (List.map vD x.k).length) < 1))), RV.d (DV.bool false)), (RV.d (DV.bool false), RV.d (DV.bool false)), (RV.d (DV.bool (Plain.rowB (unR (rD x.k)))), RV.d (DV.bool true)), (RV.d (DV.bool false), RV.d (DV.bool false)), (RV.d (DV.bool (Plain.rowB (unR (rD x.o)))), RV.d (DV.bool true)), (RV.d (DV.bool false), RV.d (DV.bool false)), (RV.d (DV.bool (Plain.rowB (unR (rD x.n)))), RV.d (DV.bool true)), (RV.d (DV.bool false), RV.d (DV.bool false)), (RV.d (DV.bool (decide (unR (rD x.o) = unR (rD x.n)))), RV.d (DV.bool false)), (RV.d (DV.bool false), RV.d (DV.bool false)), (RV.d (DV.bool (decide (0 < (Nat.cast (R := Int) (m + 1))))), RV.d (DV.bool true)), (RV.d (DV.bool true), RV.d (DV.bool true)), (RV.d (DV.int Go.IntKind.i64 (Go.IntKind.i64.wrap ((Nat.cast (R := Int) (m + 1)) - 1))), RV.d (DV.int Go.IntKind.i64 (Nat.cast (R := Int) m))), (RV.iptr ((l.map chD).getD (Nat.cast (R := Int) m).toNat DV.nilp) 0, RV.iptr (DV.agg [DV.str y.1, DV.lst 3 (List.map vD y.2) false, DV.lst 3 (List.map vD y.3) false, DV.lst 3 (List.map vD y.4) false]) 0), (RV.d (DV.int Go.IntKind.i64 (Plain.cmpC { t := y.1, k := List.map toVal (List.map vD y.k), o := List.map toVal (List.map vD y.o), n := List.map toVal (List.map vD y.n) } { t := x.1, k := List.map toVal (List.map vD x.k), o := List.map toVal (List.map vD x.o), n := List.map toVal (List.map vD x.n) })), RV.d (DV.int Go.IntKind.i64 (Plain.cmpC y x))), (RV.d (DV.bool (decide (0 ≤ Plain.cmpC y x))), RV.d (DV.bool false)), (RV.d (DV.int Go.IntKind.i64 (Go.IntKind.i64.wrap ((Nat.cast (R := Int) (m + 1)) + 1))), RV.d (DV.int Go.IntKind.i64 (Nat.cast (R := Int) ((m + 1) + 1))))] rfl (by kernel_rfl : runSegA (cfT ta) 1000 0 _ _ _ _ (maS (l.map chD) (m + 1)) = some (stackAt maC 0, maS (l.map chD) (m + 1 + 1), _, _)) (by refine ⟨?_, ?_, ?_, ?_, ?_, ?_, ?_, ?_, ?_, ?_, ?_, trivial⟩ <;> (have hlt := lt_map h11; first | exact bd_map hlt | exact ok_k (hxo hlt) | exact ok_o (hxo hlt) | exact ok_n (hxo hlt) | exact bd_map (i := m) (by omega) | exact isC_chD (hxo hlt) | exact isC_chD (hyo (by omega)) | (rw [toChg_chD]; exact hym (by omega)) | (rw [toChg_chD]; exact smC_of hm) | (show smC (toChg (chD y)) = true; rw [toChg_chD]; exact hym (by omega)) | (show smC (toChg (chD x)) = true; rw [toChg_chD]; exact smC_of hm))) (by refine ⟨le_bool h11, ?_, ?_, ?_, ?_, ?_, ?_, ?_, ?_, ?_, ?_, ?_, ?_, ?_, ?_, ?_, ?_, ?_, ?_, ?_, ?_, le_bool h72, ?_, trivial⟩ <;> (have hlt := lt_map h11; first | exact ov_chg hlt (hx hlt) | exact le_bool h72 | exact le_bool (decide_eq_true (by omega)) | exact le_bool (decide_eq_false (by omega)) | exact ov_B (by simp only [Bool.not_eq_false] at *; assumption) | exact ov_Eb (by simpa using c7) | exact ov_succ (by omega) | exact ov_chg (i := m) (by omega) (hy (by omega)) | exact ov_C y x | (refine .of_eq ?_; rw [i64_in _ (by omega)]; congr 2; omega) | exact le_bool rfl)) ?_
          have hlt := lt_map h11
          have e2 := of_decide_eq_false h72
          refine ih (m + 1 + 1) ⟨hlt, ?_, ?_⟩ (by omega)
          · rw [hstep hlt, hah (by omega), hm]; simp only; rw [decide_eq_true (by omega : cmpC y x < 0)]; rfl
          · intro z hz; rw [ahead, List.getElem?_eq_getElem hlt, hx hlt] at hz; injection hz with hz; rw [← hz]; exact hm
      · skip
        exact WK.fin ok 1000 0 [(16, RV.iptr (DV.agg [DV.str x.1, DV.lst 3 (List.map vD x.2) false, DV.lst 3 (List.map vD x.3) false, DV.lst 3 (List.map vD x.4) false]) 0), (21, RV.d (DV.bool false)), (22, RV.d (DV.bool false)), (26, RV.d (DV.bool false)), (28, RV.d (DV.bool false)), (32, RV.d (DV.bool false)), (34, RV.d (DV.bool false)), (37, RV.d (DV.bool true)), (40, RV.d (DV.bool false)), (43, RV.d (DV.bool true)), (46, RV.d (DV.bool false)), (49, RV.d (DV.bool true)), (52, RV.d (DV.bool false)), (57, RV.d (DV.bool false)), (59, RV.d (DV.bool false)), (61, RV.d (DV.bool true)), (62, RV.d (DV.bool true)), (65, RV.d (DV.int Go.IntKind.i64 (Nat.cast (R := Int) m))), (66, RV.iptr (DV.agg [DV.str y.1, DV.lst 3 (List.map vD y.2) false, DV.lst 3 (List.map vD y.3) false, DV.lst 3 (List.map vD y.4) false]) 0), (69, RV.d (DV.int Go.IntKind.i64 (Plain.cmpC y x))), (13, RV.d (DV.int Go.IntKind.i64 (Nat.cast (R := Int) ((m + 1) + 1)))), (11, RV.d (DV.bool false))] [] [(RV.d (DV.bool (decide ((Nat.cast (R := Int) (m + 1)) < (Nat.cast (R := Int) (l.map chD).length)))), RV.d (DV.bool false))] rfl (by kernel_rfl : runEnd (cfT ta) true _ 1000 0 _ _ (maS (l.map chD) (m + 1)) = some (RV.d (DV.bool true), [], _, _)) trivial ⟨le_bool h11, trivial⟩ ⟨by first | (rw [hend h11]; done) | rw [hbad (lt_map h11) (of_decide_eq_true h72)], rfl⟩
  rcases Bool.eq_false_or_eq_true (decide (1000 < (Nat.cast (R := Int) (l.map chD).length)) : Bool) with h7 | h7
  · skip
    exact WK.fin ok 1000 0 [(7, RV.d (DV.bool true))] [] [(RV.d (DV.bool (decide (1000 < (Nat.cast (R := Int) (l.map chD).length)))), RV.d (DV.bool true))] rfl (by kernel_rfl : runEnd (cfT ta) true _ 1000 0 _ _ (ini 73 [.d (chL l)] []) = some (RV.d (DV.bool false), [], _, _)) trivial ⟨le_bool h7, trivial⟩ ⟨by have e := of_decide_eq_true h7; have e2 : ¬ l.length ≤ 1000 := (by omega); simp [mayL, e2], rfl⟩
  · skip
    refine WK.segA ok 1000 0 [(7, RV.d (DV.bool false))] [] [0, 3] [] [(RV.d (DV.bool (decide (1000 < (Nat.cast (R := Int) (l.map chD).length)))), RV.d (DV.bool false))] rfl (by kernel_rfl : runSegA (cfT ta) 1000 0 _ _ _ _ (ini 73 [.d (chL l)] []) = some (stackAt maC 0, maS (l.map chD) 0, _, _)) trivial ⟨le_bool h7, trivial⟩ ?_
    have e := of_decide_eq_false h7
    exact hloop (by omega)
theorem ma_ent : EntOk Try.prog 49 (e1 maG) := by
  refine e1_ok fun x y c hg hc => ?_
  simp only [maG, Option.some.injEq, Prod.mk.injEq] at hg
  obtain ⟨rfl, rfl⟩ := hg
  obtain ⟨l, rfl, hl⟩ := isL_spec (hc (isL x) (by simp))
  rw [unL_chL]
  exact ma_c l hl
end Go.Proofs.Ytljfolepmkcjlaa

/-
  The reference's Merge, run.
-/
namespace Go.Proofs.Ytljfolepmkcjlaa
open Go.RowKit Plain Am IntWalk
set_option maxRecDepth 100000
set_option linter.unusedVariables false
set_option linter.unusedSimpArgs false

noncomputable abbrev rmgC : Code := bodyOf Try.f50
noncomputable abbrev rcoC : Code := bodyOf Try.f24
def rgA (all l : List DV) (i : Int) : ESt := { n := 126, m := 0, regs := T.mk [(0, .d (.lst 4 l false)), (4, .own 200 4), (5, .d (.int .i64 i))], objs := T.mk [(200, .arr chT 4 all)] }
def rgB (all l : List DV) (i : Int) (x : Chg) (a k : Int) : ESt := { n := 126, m := 0, regs := T.mk [(0, .d (.lst 4 l false)), (4, .own 200 4), (5, .d (.int .i64 i)), (6, .ptr 201 0), (7, .d (.int .i64 a)), (8, .d (.int .i64 k))], objs := T.mk [(200, .arr chT 4 all), (201, .box chT [.d (.str x.t), .d (rD x.k), .d (rD x.o), .d (rD x.n)])] }
def rgC (all out : List DV) (i : Int) : ESt := { n := 126, m := 0, regs := T.mk [(4, .own 200 4), (9, .own 201 4), (10, .d (.int .i64 i))], objs := T.mk [(200, .arr chT 4 all), (201, .arr chT 4 out)] }
def rgD (all out : List DV) (i a : Int) : ESt := { n := 126, m := 0, regs := T.mk [(4, .own 200 4), (9, .own 201 4), (10, .d (.int .i64 i)), (11, .d (.int .i64 a))], objs := T.mk [(200, .arr chT 4 all), (201, .arr chT 4 out)] }
noncomputable def tr1 : List (Nat × Ent) := [(36, e2 eqG), (70, e2 rcG), (49, e1 maG)]
theorem tr1_ok : EntsOk Try.prog tr1 := .cons same08_ent (.cons rc_ent (.cons ma_ent .nil))
abbrev EndsR (L : List Chg) : SSt → Prop := Ends (Try.f50.results.toList) (.tup [.d (chL (mergeC L).1), .d (.int .i64 (mergeC L).2)])
theorem ov_fldt {l : List Chg} {i : Nat} {x : Chg} (h : l[i]? = some x) : RVle (.d (((l.map chD).getD (Nat.cast (R := Int) i).toNat .nilp).cells.getD 0 .nilp)) (.d (.str x.t)) := .of_eq (by rw [Int.toNat_natCast, getD_of h]; rfl)
theorem ov_fldk {l : List Chg} {i : Nat} {x : Chg} (h : l[i]? = some x) : RVle (.d (((l.map chD).getD (Nat.cast (R := Int) i).toNat .nilp).cells.getD 1 .nilp)) (.d (rD x.k)) := .of_eq (by rw [Int.toNat_natCast, getD_of h]; rfl)
theorem ov_fldo {l : List Chg} {i : Nat} {x : Chg} (h : l[i]? = some x) : RVle (.d (((l.map chD).getD (Nat.cast (R := Int) i).toNat .nilp).cells.getD 2 .nilp)) (.d (rD x.o)) := .of_eq (by rw [Int.toNat_natCast, getD_of h]; rfl)
theorem bd_blen {l : List Chg} {i : Nat} {x : Chg} (n : Nat) (hn : n ≤ 4) (h : l[i]? = some x) : Nat.ble n ((l.map chD).getD (Nat.cast (R := Int) i).toNat .nilp).cells.length = true := by
  rw [Int.toNat_natCast, getD_of h]
  exact Nat.ble_eq_true_of_le hn
theorem keyed_sm {y : Chg} (h : keyed y) : smC y = true := by
  obtain ⟨z, z1, z2, z3, z4⟩ := h
  obtain ⟨m1, m2, m3, m4⟩ := mayC_spec z2
  simp only [smC, smR, Bool.and_eq_true, decide_eq_true_eq, List.all_eq_true, smV]
  rw [z3, z4]
  exact ⟨by omega, fun v hv => by have := m4 v hv; simp; omega⟩
/-- with one put in between -/
def splO (out : List DV) (a : Nat) (z : DV) : List DV := (([] ++ List.take (a - 0) (List.drop 0 out)) ++ [z]) ++ List.take (out.length - a) (List.drop a out)
theorem splO_eq (P Q : List Chg) (y : Chg) : splO ((P ++ Q).map chD) P.length (chD y) = (P ++ y :: Q).map chD := by
  unfold splO
  have h1 : (List.drop 0 ((P ++ Q).map chD)).take (P.length - 0) = P.map chD := by
    rw [List.drop_zero, List.map_append, Nat.sub_zero]; exact List.take_left' (by rw [List.length_map])
  have h2 : List.drop P.length ((P ++ Q).map chD) = Q.map chD := by
    rw [List.map_append]; exact List.drop_left' (by rw [List.length_map])
  rw [h1, h2, List.take_of_length_le (by simp)]
  simp
set_option maxHeartbeats 2000000 in
/-- the first reading: which one has the key -/
theorem rg_inner (L A : List Chg) (x : Chg) (i : Nat) (hxo : Chg.ok x) (hnk : nokey A) (hA : ∀ y ∈ A, Chg.ok y) (hA6 : A.length ≤ 10000) (a : Int)
    (ha : match A.findIdx? (fun y => keyB y x) with | none => a = -1 | some j => a = j)
    (hk : WK Try.prog 0 (stackAt rmgC 1) (rgB (A.map chD) (L.map chD) (i : Int) x a (A.length : Int)).den (EndsR L)) :
    WK Try.prog 0 (stackAt rmgC 1) (rgB (A.map chD) (L.map chD) (i : Int) x (-1) 0).den (EndsR L) := by
  have ok := cfT_ok tr1_ok
  have hal : (A.map chD).length = A.length := List.length_map ..
  have key := WK.rec' (P := Try.prog) (m := 0) (k := stackAt rmgC 1) (Q := EndsR L) (fun (q : Nat × Int) => rgB (A.map chD) (L.map chD) (i : Int) x q.2 (q.1 : Int)) (fun q => q.1 ≤ A.length ∧ match A.findIdx? (fun y => keyB y x) with | none => q.2 = -1 | some j => q.2 = if q.1 ≤ j then -1 else (j : Int)) (fun q => A.length - q.1) ?_ (0, -1) ⟨Nat.zero_le _, by
    cases A.findIdx? (fun y => keyB y x) with
    | none => rfl
    | some j => simp⟩
  · exact key
  rintro ⟨k, q⟩ ⟨hkl, hq⟩ ih
  simp only at hkl hq ih ⊢
  by_cases hlt : k < A.length
  · obtain ⟨y, hy⟩ : ∃ y, A[k] = y := ⟨_, rfl⟩
    have gy : A[k]? = some y := by rw [List.getElem?_eq_getElem hlt, hy]
    have hyo := hA y (List.mem_of_getElem? gy)
    have b1 := bd_in gy
    have b2 := bd_in2 gy
    have b3 := bd_blen 1 (by omega) gy
    have b4 := bd_blen 2 (by omega) gy
    have o1 := ov_fldt gy
    have o2 := ov_fldk gy
    have o3 := ov_E y.k x.k
    have hlt' : decide ((Nat.cast (R := Int) k) < (Nat.cast (R := Int) (A.map chD).length)) = true := decide_eq_true (by omega)
    -- the next round's place
    have hyes : keyB y x = true → WK Try.prog 0 (stackAt rmgC 1) (rgB (A.map chD) (L.map chD) (i : Int) x (k : Int) ((k + 1 : Nat) : Int)).den (EndsR L) := fun hb => by
      have hf : A.findIdx? (fun y => keyB y x) = some k := by
        rw [List.findIdx?_eq_some_iff_getElem]
        refine ⟨hlt, by rw [hy]; exact hb, fun j hj => ?_⟩
        intro hjb
        have hjl : j < A.length := by omega
        -- two of one key
        have hk2 := keyB_trans hjb (keyB_symm hb)
        have key2 : ∀ (B : List Chg) (j k : Nat) (u v : Chg), nokey B → j < k → B[j]? = some u → B[k]? = some v → keyB u v = false := by
          intro B
          induction B with
          | nil => intro j k u v _ _ h; simp at h
          | cons w r ihr =>
            intro j k u v hn hjk hu hv
            cases k with
            | zero => omega
            | succ k =>
              rw [List.getElem?_cons_succ] at hv
              cases j with
              | zero =>
                simp only [List.getElem?_cons_zero, Option.some.injEq] at hu
                subst hu
                exact hn.1 v (List.mem_of_getElem? hv)
              | succ j =>
                rw [List.getElem?_cons_succ] at hu
                exact ihr j k u v hn.2 (by omega) hu hv
        have := key2 A j k A[j] y hnk hj (List.getElem?_eq_getElem hjl) gy
        rw [this] at hk2; cases hk2
      rw [hf] at ih hq
      exact ih (k + 1, (k : Int)) ⟨hlt, by simp only; rw [if_neg (by omega)]⟩ (by simp only; omega)
    have hno : keyB y x = false → WK Try.prog 0 (stackAt rmgC 1) (rgB (A.map chD) (L.map chD) (i : Int) x q ((k + 1 : Nat) : Int)).den (EndsR L) := fun hb => by
      refine ih (k + 1, q) ⟨hlt, ?_⟩ (by simp only; omega)
      cases hf : A.findIdx? (fun y => keyB y x) with
      | none => rw [hf] at hq; exact hq
      | some j =>
        rw [hf] at hq
        have hjk : j ≠ k := fun e => by
          subst e
          have := (List.findIdx?_eq_some_iff_getElem.1 hf).2.1
          rw [hy, hb] at this; cases this
        simp only at hq ⊢
        rw [hq]
        by_cases h : k ≤ j
        · rw [if_pos h, if_pos (by omega)]
        · rw [if_neg h, if_neg (by omega)]
    have e1 : (y.t == x.t) = true → decide (y.k = x.k) = true → keyB y x = true := fun h1 h2 => keyB_iff.2 ⟨eq_of_beq h1, of_decide_eq_true h2⟩
    have e2 : decide (y.k = x.k) = false → keyB y x = false := fun h2 => by
      cases e : keyB y x with
      | false => rfl
      | true => have := (keyB_iff.1 e).2; rw [decide_eq_true this] at h2; cases h2
    have e3 : (y.t == x.t) = false → keyB y x = false := fun h2 => by
      cases e : keyB y x with
      | false => rfl
      | true => have := (keyB_iff.1 e).1; rw [this] at h2; simp at h2
    obtain ⟨all, hall⟩ : ∃ all, A.map chD = all := ⟨_, rfl⟩
    obtain ⟨l, hl⟩ : ∃ l, L.map chD = l := ⟨_, rfl⟩
    rw [hall] at hal b1 b2 b3 b4 o1 o2 hlt' hyes hno ⊢
    rw [hl] at hyes hno ⊢
    have hqq : q = -1 ∨ ∃ j : Nat, q = j := by
      cases hf : A.findIdx? (fun y => keyB y x) with
      | none => rw [hf] at hq; exact .inl hq
      | some j =>
        rw [hf] at hq
        simp only at hq
        by_cases h : k ≤ j
        · rw [if_pos h] at hq; exact .inl hq
        · rw [if_neg h] at hq; exact .inr ⟨j, hq⟩
    clear ih hk hq hA
    rcases hqq with rfl | ⟨j, rfl⟩
    · skip
      rcases Bool.eq_false_or_eq_true (y.1 == x.1 : Bool) with h37 | h37
      · skip
        rcases Bool.eq_false_or_eq_true (decide (y.k = x.k) : Bool) with h46 | h46
        · skip
          have hrun : runSegA (cfT tr1) 1000 0 [(26, RV.d (DV.bool true)), (33, RV.d (DV.str y.1)), (42, RV.d (DV.lst 3 (List.map vD y.2) false)), (45, RV.d (DV.bool (decide (y.k = x.k)))), (28, RV.d (DV.int Go.IntKind.i64 (Nat.cast (R := Int) (k + 1)))), (37, RV.d (DV.bool true)), (46, RV.d (DV.bool true))] [] [0, 4, 5, 6, 7, 8] (stackAt rmgC 1) (rgB all l (i : Int) x (-1) (k : Int)) = some (stackAt rmgC 1, rgB all l (i : Int) x (Nat.cast (R := Int) k) ((k + 1 : Nat) : Int), [decide (0 ≤ (Nat.cast (R := Int) k) ∧ (Nat.cast (R := Int) k) < (Nat.cast (R := Int) all.length)), decide ((Nat.cast (R := Int) k).toNat < all.length), Nat.ble 1 (all.getD (Nat.cast (R := Int) k).toNat DV.nilp).cells.length, decide (0 ≤ (Nat.cast (R := Int) k) ∧ (Nat.cast (R := Int) k) < (Nat.cast (R := Int) all.length)), decide ((Nat.cast (R := Int) k).toNat < all.length), Nat.ble 2 (all.getD (Nat.cast (R := Int) k).toNat DV.nilp).cells.length, decide ((List.map vD y.k).length ≤ 65536) && (List.map vD y.2).all isVal && true && true, decide ((List.map vD x.k).length ≤ 65536) && (List.map vD x.2).all isVal && true && true], [(RV.d (DV.bool (decide ((Nat.cast (R := Int) k) < (Nat.cast (R := Int) all.length)))), RV.d (DV.bool true)), (RV.d ((all.getD (Nat.cast (R := Int) k).toNat DV.nilp).cells.getD 0 DV.nilp), RV.d (DV.str y.1)), (RV.d (DV.bool (y.1 == x.1)), RV.d (DV.bool true)), (RV.d ((all.getD (Nat.cast (R := Int) k).toNat DV.nilp).cells.getD 1 DV.nilp), RV.d (DV.lst 3 (List.map vD y.2) false)), (RV.d (DV.bool (decide (unR (rD y.k) = unR (rD x.k)))), RV.d (DV.bool (decide (y.k = x.k)))), (RV.d (DV.bool (decide (y.k = x.k))), RV.d (DV.bool true)), (RV.d (DV.int Go.IntKind.i64 (Go.IntKind.i64.wrap ((Nat.cast (R := Int) k) + 1))), RV.d (DV.int Go.IntKind.i64 (Nat.cast (R := Int) (k + 1))))]) := by kernel_rfl
          refine WK.segA (st := (rgB all l (i : Int) x (-1) (k : Int))) (st' := rgB all l (i : Int) x (Nat.cast (R := Int) k) ((k + 1 : Nat) : Int)) (k := (stackAt rmgC 1)) (k' := stackAt rmgC 1) ok 1000 0 _ _ _ _ _ rfl hrun (by refine ⟨?_, ?_, ?_, ?_, ?_, ?_, ?_, ?_, trivial⟩ <;> (first | exact b1 | exact b2 | exact b3 | exact b4 | exact ok_k hyo | exact ok_k hxo)) (by refine ⟨?_, ?_, le_bool h37, ?_, ?_, le_bool h46, ?_, trivial⟩ <;> (first | exact le_bool hlt' | exact o1 | exact o2 | exact o3 | exact ov_succ (by omega))) ?_
          first | exact hyes (e1 h37 h46) | exact hno (e2 h46) | exact hno (e3 h37)
        · skip
          have hrun : runSegA (cfT tr1) 1000 0 [(26, RV.d (DV.bool true)), (33, RV.d (DV.str y.1)), (42, RV.d (DV.lst 3 (List.map vD y.2) false)), (45, RV.d (DV.bool (decide (y.k = x.k)))), (28, RV.d (DV.int Go.IntKind.i64 (Nat.cast (R := Int) (k + 1)))), (37, RV.d (DV.bool true)), (46, RV.d (DV.bool false))] [] [0, 4, 5, 6, 7, 8] (stackAt rmgC 1) (rgB all l (i : Int) x (-1) (k : Int)) = some (stackAt rmgC 1, rgB all l (i : Int) x (-1) ((k + 1 : Nat) : Int), [decide (0 ≤ (Nat.cast (R := Int) k) ∧ (Nat.cast (R := Int) k) < (Nat.cast (R := Int) all.length)), decide ((Nat.cast (R := Int) k).toNat < all.length), Nat.ble 1 (all.getD (Nat.cast (R := Int) k).toNat DV.nilp).cells.length, decide (0 ≤ (Nat.cast (R := Int) k) ∧ (Nat.cast (R := Int) k) < (Nat.cast (R := Int) all.length)), decide ((Nat.cast (R := Int) k).toNat < all.length), Nat.ble 2 (all.getD (Nat.cast (R := Int) k).toNat DV.nilp).cells.length, decide ((List.map vD y.k).length ≤ 65536) && (List.map vD y.2).all isVal && true && true, decide ((List.map vD x.k).length ≤ 65536) && (List.map vD x.2).all isVal && true && true], [(RV.d (DV.bool (decide ((Nat.cast (R := Int) k) < (Nat.cast (R := Int) all.length)))), RV.d (DV.bool true)), (RV.d ((all.getD (Nat.cast (R := Int) k).toNat DV.nilp).cells.getD 0 DV.nilp), RV.d (DV.str y.1)), (RV.d (DV.bool (y.1 == x.1)), RV.d (DV.bool true)), (RV.d ((all.getD (Nat.cast (R := Int) k).toNat DV.nilp).cells.getD 1 DV.nilp), RV.d (DV.lst 3 (List.map vD y.2) false)), (RV.d (DV.bool (decide (unR (rD y.k) = unR (rD x.k)))), RV.d (DV.bool (decide (y.k = x.k)))), (RV.d (DV.bool (decide (y.k = x.k))), RV.d (DV.bool false)), (RV.d (DV.int Go.IntKind.i64 (Go.IntKind.i64.wrap ((Nat.cast (R := Int) k) + 1))), RV.d (DV.int Go.IntKind.i64 (Nat.cast (R := Int) (k + 1))))]) := by kernel_rfl
          refine WK.segA (st := (rgB all l (i : Int) x (-1) (k : Int))) (st' := rgB all l (i : Int) x (-1) ((k + 1 : Nat) : Int)) (k := (stackAt rmgC 1)) (k' := stackAt rmgC 1) ok 1000 0 _ _ _ _ _ rfl hrun (by refine ⟨?_, ?_, ?_, ?_, ?_, ?_, ?_, ?_, trivial⟩ <;> (first | exact b1 | exact b2 | exact b3 | exact b4 | exact ok_k hyo | exact ok_k hxo)) (by refine ⟨?_, ?_, le_bool h37, ?_, ?_, le_bool h46, ?_, trivial⟩ <;> (first | exact le_bool hlt' | exact o1 | exact o2 | exact o3 | exact ov_succ (by omega))) ?_
          first | exact hyes (e1 h37 h46) | exact hno (e2 h46) | exact hno (e3 h37)
      · skip
        have hrun : runSegA (cfT tr1) 1000 0 [(26, RV.d (DV.bool true)), (33, RV.d (DV.str y.1)), (42, RV.d (DV.lst 3 (List.map vD y.2) false)), (45, RV.d (DV.bool (decide (y.k = x.k)))), (28, RV.d (DV.int Go.IntKind.i64 (Nat.cast (R := Int) (k + 1)))), (37, RV.d (DV.bool false))] [] [0, 4, 5, 6, 7, 8] (stackAt rmgC 1) (rgB all l (i : Int) x (-1) (k : Int)) = some (stackAt rmgC 1, rgB all l (i : Int) x (-1) ((k + 1 : Nat) : Int), [decide (0 ≤ (Nat.cast (R := Int) k) ∧ (Nat.cast (R := Int) k) < (Nat.cast (R := Int) all.length)), decide ((Nat.cast (R := Int) k).toNat < all.length), Nat.ble 1 (all.getD (Nat.cast (R := Int) k).toNat DV.nilp).cells.length], [(RV.d (DV.bool (decide ((Nat.cast (R := Int) k) < (Nat.cast (R := Int) all.length)))), RV.d (DV.bool true)), (RV.d ((all.getD (Nat.cast (R := Int) k).toNat DV.nilp).cells.getD 0 DV.nilp), RV.d (DV.str y.1)), (RV.d (DV.bool (y.1 == x.1)), RV.d (DV.bool false)), (RV.d (DV.int Go.IntKind.i64 (Go.IntKind.i64.wrap ((Nat.cast (R := Int) k) + 1))), RV.d (DV.int Go.IntKind.i64 (Nat.cast (R := Int) (k + 1))))]) := by kernel_rfl
        refine WK.segA (st := (rgB all l (i : Int) x (-1) (k : Int))) (st' := rgB all l (i : Int) x (-1) ((k + 1 : Nat) : Int)) (k := (stackAt rmgC 1)) (k' := stackAt rmgC 1) ok 1000 0 _ _ _ _ _ rfl hrun (by refine ⟨?_, ?_, ?_, trivial⟩ <;> (first | exact b1 | exact b2 | exact b3 | exact b4 | exact ok_k hyo | exact ok_k hxo)) (by refine ⟨?_, ?_, le_bool h37, ?_, trivial⟩ <;> (first | exact le_bool hlt' | exact o1 | exact o2 | exact o3 | exact ov_succ (by omega))) ?_
        first | exact hyes (e1 h37 h46) | exact hno (e2 h46) | exact hno (e3 h37)
    · skip
      rcases Bool.eq_false_or_eq_true (y.1 == x.1 : Bool) with h37 | h37
      · skip
        rcases Bool.eq_false_or_eq_true (decide (y.k = x.k) : Bool) with h46 | h46
        · skip
          have hrun : runSegA (cfT tr1) 1000 0 [(26, RV.d (DV.bool true)), (33, RV.d (DV.str y.1)), (42, RV.d (DV.lst 3 (List.map vD y.2) false)), (45, RV.d (DV.bool (decide (y.k = x.k)))), (28, RV.d (DV.int Go.IntKind.i64 (Nat.cast (R := Int) (k + 1)))), (37, RV.d (DV.bool true)), (46, RV.d (DV.bool true))] [] [0, 4, 5, 6, 7, 8] (stackAt rmgC 1) (rgB all l (i : Int) x (j : Int) (k : Int)) = some (stackAt rmgC 1, rgB all l (i : Int) x (Nat.cast (R := Int) k) ((k + 1 : Nat) : Int), [decide (0 ≤ (Nat.cast (R := Int) k) ∧ (Nat.cast (R := Int) k) < (Nat.cast (R := Int) all.length)), decide ((Nat.cast (R := Int) k).toNat < all.length), Nat.ble 1 (all.getD (Nat.cast (R := Int) k).toNat DV.nilp).cells.length, decide (0 ≤ (Nat.cast (R := Int) k) ∧ (Nat.cast (R := Int) k) < (Nat.cast (R := Int) all.length)), decide ((Nat.cast (R := Int) k).toNat < all.length), Nat.ble 2 (all.getD (Nat.cast (R := Int) k).toNat DV.nilp).cells.length, decide ((List.map vD y.k).length ≤ 65536) && (List.map vD y.2).all isVal && true && true, decide ((List.map vD x.k).length ≤ 65536) && (List.map vD x.2).all isVal && true && true], [(RV.d (DV.bool (decide ((Nat.cast (R := Int) k) < (Nat.cast (R := Int) all.length)))), RV.d (DV.bool true)), (RV.d ((all.getD (Nat.cast (R := Int) k).toNat DV.nilp).cells.getD 0 DV.nilp), RV.d (DV.str y.1)), (RV.d (DV.bool (y.1 == x.1)), RV.d (DV.bool true)), (RV.d ((all.getD (Nat.cast (R := Int) k).toNat DV.nilp).cells.getD 1 DV.nilp), RV.d (DV.lst 3 (List.map vD y.2) false)), (RV.d (DV.bool (decide (unR (rD y.k) = unR (rD x.k)))), RV.d (DV.bool (decide (y.k = x.k)))), (RV.d (DV.bool (decide (y.k = x.k))), RV.d (DV.bool true)), (RV.d (DV.int Go.IntKind.i64 (Go.IntKind.i64.wrap ((Nat.cast (R := Int) k) + 1))), RV.d (DV.int Go.IntKind.i64 (Nat.cast (R := Int) (k + 1))))]) := by kernel_rfl
          refine WK.segA (st := (rgB all l (i : Int) x (j : Int) (k : Int))) (st' := rgB all l (i : Int) x (Nat.cast (R := Int) k) ((k + 1 : Nat) : Int)) (k := (stackAt rmgC 1)) (k' := stackAt rmgC 1) ok 1000 0 _ _ _ _ _ rfl hrun (by refine ⟨?_, ?_, ?_, ?_, ?_, ?_, ?_, ?_, trivial⟩ <;> (first | exact b1 | exact b2 | exact b3 | exact b4 | exact ok_k hyo | exact ok_k hxo)) (by refine ⟨?_, ?_, le_bool h37, ?_, ?_, le_bool h46, ?_, trivial⟩ <;> (first | exact le_bool hlt' | exact o1 | exact o2 | exact o3 | exact ov_succ (by omega))) ?_
          first | exact hyes (e1 h37 h46) | exact hno (e2 h46) | exact hno (e3 h37)
        · skip
          have hrun : runSegA (cfT tr1) 1000 0 [(26, RV.d (DV.bool true)), (33, RV.d (DV.str y.1)), (42, RV.d (DV.lst 3 (List.map vD y.2) false)), (45, RV.d (DV.bool (decide (y.k = x.k)))), (28, RV.d (DV.int Go.IntKind.i64 (Nat.cast (R := Int) (k + 1)))), (37, RV.d (DV.bool true)), (46, RV.d (DV.bool false))] [] [0, 4, 5, 6, 7, 8] (stackAt rmgC 1) (rgB all l (i : Int) x (j : Int) (k : Int)) = some (stackAt rmgC 1, rgB all l (i : Int) x (Nat.cast (R := Int) j) ((k + 1 : Nat) : Int), [decide (0 ≤ (Nat.cast (R := Int) k) ∧ (Nat.cast (R := Int) k) < (Nat.cast (R := Int) all.length)), decide ((Nat.cast (R := Int) k).toNat < all.length), Nat.ble 1 (all.getD (Nat.cast (R := Int) k).toNat DV.nilp).cells.length, decide (0 ≤ (Nat.cast (R := Int) k) ∧ (Nat.cast (R := Int) k) < (Nat.cast (R := Int) all.length)), decide ((Nat.cast (R := Int) k).toNat < all.length), Nat.ble 2 (all.getD (Nat.cast (R := Int) k).toNat DV.nilp).cells.length, decide ((List.map vD y.k).length ≤ 65536) && (List.map vD y.2).all isVal && true && true, decide ((List.map vD x.k).length ≤ 65536) && (List.map vD x.2).all isVal && true && true], [(RV.d (DV.bool (decide ((Nat.cast (R := Int) k) < (Nat.cast (R := Int) all.length)))), RV.d (DV.bool true)), (RV.d ((all.getD (Nat.cast (R := Int) k).toNat DV.nilp).cells.getD 0 DV.nilp), RV.d (DV.str y.1)), (RV.d (DV.bool (y.1 == x.1)), RV.d (DV.bool true)), (RV.d ((all.getD (Nat.cast (R := Int) k).toNat DV.nilp).cells.getD 1 DV.nilp), RV.d (DV.lst 3 (List.map vD y.2) false)), (RV.d (DV.bool (decide (unR (rD y.k) = unR (rD x.k)))), RV.d (DV.bool (decide (y.k = x.k)))), (RV.d (DV.bool (decide (y.k = x.k))), RV.d (DV.bool false)), (RV.d (DV.int Go.IntKind.i64 (Go.IntKind.i64.wrap ((Nat.cast (R := Int) k) + 1))), RV.d (DV.int Go.IntKind.i64 (Nat.cast (R := Int) (k + 1))))]) := by kernel_rfl
          refine WK.segA (st := (rgB all l (i : Int) x (j : Int) (k : Int))) (st' := rgB all l (i : Int) x (Nat.cast (R := Int) j) ((k + 1 : Nat) : Int)) (k := (stackAt rmgC 1)) (k' := stackAt rmgC 1) ok 1000 0 _ _ _ _ _ rfl hrun (by refine ⟨?_, ?_, ?_, ?_, ?_, ?_, ?_, ?_, trivial⟩ <;> (first | exact b1 | exact b2 | exact b3 | exact b4 | exact ok_k hyo | exact ok_k hxo)) (by refine ⟨?_, ?_, le_bool h37, ?_, ?_, le_bool h46, ?_, trivial⟩ <;> (first | exact le_bool hlt' | exact o1 | exact o2 | exact o3 | exact ov_succ (by omega))) ?_
          first | exact hyes (e1 h37 h46) | exact hno (e2 h46) | exact hno (e3 h37)
      · skip
        have hrun : runSegA (cfT tr1) 1000 0 [(26, RV.d (DV.bool true)), (33, RV.d (DV.str y.1)), (42, RV.d (DV.lst 3 (List.map vD y.2) false)), (45, RV.d (DV.bool (decide (y.k = x.k)))), (28, RV.d (DV.int Go.IntKind.i64 (Nat.cast (R := Int) (k + 1)))), (37, RV.d (DV.bool false))] [] [0, 4, 5, 6, 7, 8] (stackAt rmgC 1) (rgB all l (i : Int) x (j : Int) (k : Int)) = some (stackAt rmgC 1, rgB all l (i : Int) x (Nat.cast (R := Int) j) ((k + 1 : Nat) : Int), [decide (0 ≤ (Nat.cast (R := Int) k) ∧ (Nat.cast (R := Int) k) < (Nat.cast (R := Int) all.length)), decide ((Nat.cast (R := Int) k).toNat < all.length), Nat.ble 1 (all.getD (Nat.cast (R := Int) k).toNat DV.nilp).cells.length], [(RV.d (DV.bool (decide ((Nat.cast (R := Int) k) < (Nat.cast (R := Int) all.length)))), RV.d (DV.bool true)), (RV.d ((all.getD (Nat.cast (R := Int) k).toNat DV.nilp).cells.getD 0 DV.nilp), RV.d (DV.str y.1)), (RV.d (DV.bool (y.1 == x.1)), RV.d (DV.bool false)), (RV.d (DV.int Go.IntKind.i64 (Go.IntKind.i64.wrap ((Nat.cast (R := Int) k) + 1))), RV.d (DV.int Go.IntKind.i64 (Nat.cast (R := Int) (k + 1))))]) := by kernel_rfl
        refine WK.segA (st := (rgB all l (i : Int) x (j : Int) (k : Int))) (st' := rgB all l (i : Int) x (Nat.cast (R := Int) j) ((k + 1 : Nat) : Int)) (k := (stackAt rmgC 1)) (k' := stackAt rmgC 1) ok 1000 0 _ _ _ _ _ rfl hrun (by refine ⟨?_, ?_, ?_, trivial⟩ <;> (first | exact b1 | exact b2 | exact b3 | exact b4 | exact ok_k hyo | exact ok_k hxo)) (by refine ⟨?_, ?_, le_bool h37, ?_, trivial⟩ <;> (first | exact le_bool hlt' | exact o1 | exact o2 | exact o3 | exact ov_succ (by omega))) ?_
        first | exact hyes (e1 h37 h46) | exact hno (e2 h46) | exact hno (e3 h37)
  · have e : k = A.length := by omega
    subst e
    have : q = a := by
      cases hf : A.findIdx? (fun y => keyB y x) with
      | none => rw [hf] at hq ha; rw [hq, ha]
      | some j =>
        rw [hf] at hq ha
        simp only at hq ha
        have := (List.findIdx?_eq_some_iff_getElem.1 hf).1
        rw [if_neg (by omega)] at hq
        rw [hq, ha]
    rw [this]; exact hk
set_option maxHeartbeats 2000000 in
/-- the second half: what is none is left out, the others are put in order -/
theorem rg_sort (L A : List Chg) (hR : mFold [] L = some A) (hA : ∀ y ∈ A, Chg.ok y ∧ keyed y) (hA6 : A.length ≤ 10000) : WK Try.prog 0 (stackAt rmgC 2) (rgC (A.map chD) [] 0).den (EndsR L) := by
  have ok := cfT_ok tr1_ok
  have hal : (A.map chD).length = A.length := List.length_map ..
  have key := WK.rec' (P := Try.prog) (m := 0) (k := stackAt rmgC 2) (Q := EndsR L) (fun (i : Nat) => rgC (A.map chD) ((Srt.isort cmpC (live (A.take i))).map chD) (i : Int)) (fun i => i ≤ A.length) (fun i => A.length - i) ?_ 0 (Nat.zero_le _)
  · exact key
  intro i hi ih
  have hSm : ∀ z ∈ Srt.isort cmpC (live (A.take i)), z ∈ A := fun z hz => List.mem_of_mem_take (List.mem_filter.1 ((Srt.isort_ok preC _).2.mem_iff.1 hz)).1
  have hSl : (Srt.isort cmpC (live (A.take i))).length ≤ A.length := by
    rw [(Srt.isort_ok preC _).2.length_eq]
    have h1 : (live (A.take i)).length ≤ (A.take i).length := List.length_filter_le _ _
    rw [List.length_take] at h1; omega
  by_cases hlt : i < A.length
  · obtain ⟨y, hy⟩ : ∃ y, A[i] = y := ⟨_, rfl⟩
    have gy : A[i]? = some y := by rw [List.getElem?_eq_getElem hlt, hy]
    obtain ⟨hyo, hyk⟩ := hA y (List.mem_of_getElem? gy)
    have tx : A.take (i + 1) = A.take i ++ [y] := by rw [List.take_add_one, gy]; rfl
    have hw := ih (i + 1) hlt (by omega)
    have b1 := bd_in gy
    have b2 := bd_in2 gy
    have b3 := bd_blen 3 (by omega) gy
    have b4 := bd_ble gy
    have o1 := ov_fldo gy
    have o2 := ov_fld gy
    have o4 := ov_load gy
    have hlt' : decide ((Nat.cast (R := Int) i) < (Nat.cast (R := Int) (A.map chD).length)) = true := decide_eq_true (by omega)
    by_cases hyn : y.o = y.n
    · have hlv : live (A.take (i + 1)) = live (A.take i) := by rw [tx, live_snoc, if_pos (by unfold nilB; exact decide_eq_true hyn), List.append_nil]
      rw [hlv] at hw
      have o3 : RVle (.d (.bool (decide (unR (rD y.o) = unR (rD y.n))))) (.d (.bool true)) := le_bool (by rw [unR_rD, unR_rD]; exact decide_eq_true hyn)
      obtain ⟨out, hout⟩ : ∃ out, (Srt.isort cmpC (live (A.take i))).map chD = out := ⟨_, rfl⟩
      obtain ⟨all, hall⟩ : ∃ all, A.map chD = all := ⟨_, rfl⟩
      rw [hout] at hw ⊢
      rw [hall] at hw b1 b2 b3 b4 o1 o2 hlt' ⊢
      clear ih hSm hA
      refine WK.segA ok 1000 0 [(72, RV.d (DV.bool true)), (79, RV.d (DV.lst 3 (List.map vD y.3) false)), (84, RV.d (DV.lst 3 (List.map vD y.4) false)), (85, RV.d (DV.bool true)), (74, RV.d (DV.int Go.IntKind.i64 (Nat.cast (R := Int) (i + 1))))] [] [4, 9, 10] [decide (0 ≤ (Nat.cast (R := Int) i) ∧ (Nat.cast (R := Int) i) < (Nat.cast (R := Int) all.length)), decide ((Nat.cast (R := Int) i).toNat < all.length), Nat.ble 3 (all.getD (Nat.cast (R := Int) i).toNat DV.nilp).cells.length, decide (0 ≤ (Nat.cast (R := Int) i) ∧ (Nat.cast (R := Int) i) < (Nat.cast (R := Int) all.length)), decide ((Nat.cast (R := Int) i).toNat < all.length), Nat.ble 4 (all.getD (Nat.cast (R := Int) i).toNat DV.nilp).cells.length, decide ((List.map vD y.o).length ≤ 65536) && (List.map vD y.3).all isVal && true && true, decide ((List.map vD y.n).length ≤ 65536) && (List.map vD y.4).all isVal && true && true] [(RV.d (DV.bool (decide ((Nat.cast (R := Int) i) < (Nat.cast (R := Int) all.length)))), RV.d (DV.bool true)), (RV.d ((all.getD (Nat.cast (R := Int) i).toNat DV.nilp).cells.getD 2 DV.nilp), RV.d (DV.lst 3 (List.map vD y.3) false)), (RV.d ((all.getD (Nat.cast (R := Int) i).toNat DV.nilp).cells.getD 3 DV.nilp), RV.d (DV.lst 3 (List.map vD y.4) false)), (RV.d (DV.bool (decide (unR (rD y.o) = unR (rD y.n)))), RV.d (DV.bool true)), (RV.d (DV.int Go.IntKind.i64 (Go.IntKind.i64.wrap ((Nat.cast (R := Int) i) + 1))), RV.d (DV.int Go.IntKind.i64 (Nat.cast (R := Int) (i + 1))))] rfl (by kernel_rfl : runSegA (cfT tr1) 1000 0 _ _ _ _ (rgC all out (i : Int)) = some (stackAt rmgC 2, rgC all out ((i + 1 : Nat) : Int), _, _)) (by refine ⟨?_, ?_, ?_, ?_, ?_, ?_, ?_, ?_, trivial⟩ <;> (first | exact b1 | exact b2 | exact b3 | exact b4 | exact ok_o hyo | exact ok_n hyo)) (by refine ⟨?_, ?_, ?_, ?_, ?_, trivial⟩ <;> (first | exact le_bool hlt' | exact o1 | exact o2 | exact o3 | exact ov_succ (by omega))) ?_
      exact hw
    · have hlv : live (A.take (i + 1)) = live (A.take i) ++ [y] := by rw [tx, live_snoc, if_neg (by unfold nilB; simpa using hyn)]
      rw [hlv, isort_snoc] at hw
      have o3 : RVle (.d (.bool (decide (unR (rD y.o) = unR (rD y.n))))) (.d (.bool false)) := le_bool (by rw [unR_rD, unR_rD]; exact decide_eq_false hyn)
      obtain ⟨S, hS⟩ : ∃ S, Srt.isort cmpC (live (A.take i)) = S := ⟨_, rfl⟩
      rw [hS] at hw hSm hSl ⊢
      -- the place is looked for from the end
      have hD : WK Try.prog 0 (stackAt rmgC 3) (rgD (A.map chD) (S.map chD) (i : Int) ((S.map chD).length : Int)).den (EndsR L) := by
        have key2 := WK.rec' (P := Try.prog) (m := 0) (k := stackAt rmgC 3) (Q := EndsR L) (fun (q : List Chg × List Chg) => rgD (A.map chD) (S.map chD) (i : Int) (q.1.length : Int)) (fun q => S = q.1 ++ q.2 ∧ ∀ z ∈ q.2, cmpC y z < 0) (fun q => q.1.length) ?_ (S, []) ⟨by simp, by simp⟩
        · rw [List.length_map]; exact key2
        rintro ⟨P, Q⟩ ⟨hPQ, hQ⟩ ih2
        simp only at hPQ hQ ih2 ⊢
        obtain ⟨a, ha⟩ : ∃ a, P.length = a := ⟨_, rfl⟩
        have hSlen : S.length = a + Q.length := by rw [hPQ, List.length_append, ha]
        have hdone : (P = [] ∨ ∃ P' z, P = P' ++ [z] ∧ ¬ cmpC y z < 0) → WK Try.prog 0 (stackAt rmgC 2) (rgC (A.map chD) (splO (S.map chD) a (chD y)) ((i + 1 : Nat) : Int)).den (EndsR L) := fun h => by
          have e := insE_spec (c := cmpC) hQ h
          have e2 := splO_eq P Q y
          rw [ha, ← hPQ] at e2
          rw [e2, ← e, ← hPQ]
          exact hw
        have hol : (S.map chD).length = S.length := List.length_map ..
        rcases List.eq_nil_or_concat P with rfl | ⟨P', z, hPe⟩
        · have hd := hdone (.inl rfl)
          simp only [List.length_nil] at ha
          have hf : decide ((0 : Int) < (Nat.cast (R := Int) a)) = false := decide_eq_false (by omega)
          obtain ⟨out, hout⟩ : ∃ out, S.map chD = out := ⟨_, rfl⟩
          obtain ⟨all, hall⟩ : ∃ all, A.map chD = all := ⟨_, rfl⟩
          show WK Try.prog 0 _ (rgD (A.map chD) (S.map chD) (i : Int) (([] : List Chg).length : Int)).den _
          rw [show (Nat.cast (R := Int) ([] : List Chg).length) = (Nat.cast (R := Int) a) by rw [← ha]; rfl]
          rw [hout] at hd hol ⊢
          rw [hall] at hd b1 b2 b4 o4 ⊢
          clear ih ih2 hSm hA hdone hw
          refine WK.segA ok 1000 0 [(89, RV.d (DV.bool false)), (90, RV.d (DV.bool false)), (102, RV.d (DV.bool false)), (114, RV.d (DV.agg [DV.str y.1, DV.lst 3 (List.map vD y.2) false, DV.lst 3 (List.map vD y.3) false, DV.lst 3 (List.map vD y.4) false])), (74, RV.d (DV.int Go.IntKind.i64 (Nat.cast (R := Int) (i + 1))))] [] [4, 9, 10] [decide (0 ≤ (Nat.cast (R := Int) a) ∧ (Nat.cast (R := Int) a) ≤ (Nat.cast (R := Int) out.length)), decide (loOf Option.none + (hiOf out.length (Option.some (Nat.cast (R := Int) a)) - loOf Option.none) ≤ out.length), decide ((([] : List DV).length + (List.take (hiOf out.length (Option.some (Nat.cast (R := Int) a)) - loOf Option.none) (List.drop (loOf Option.none) out)).length) * 88 ≤ 2 ^ 38), true, decide (0 ≤ (Nat.cast (R := Int) i) ∧ (Nat.cast (R := Int) i) < (Nat.cast (R := Int) all.length)), decide ((Nat.cast (R := Int) i).toNat < all.length), Nat.ble 4 (all.getD (Nat.cast (R := Int) i).toNat DV.nilp).cells.length, decide ((([] ++ List.take (hiOf out.length (Option.some (Nat.cast (R := Int) a)) - loOf Option.none) (List.drop (loOf Option.none) out)).length + [chD y].length) * 88 ≤ 2 ^ 38), decide (0 ≤ (Nat.cast (R := Int) a) ∧ (Nat.cast (R := Int) a) ≤ (Nat.cast (R := Int) out.length)), decide (loOf (Option.some (Nat.cast (R := Int) a)) + (hiOf out.length Option.none - loOf (Option.some (Nat.cast (R := Int) a))) ≤ out.length), decide ((([] ++ List.take (hiOf out.length (Option.some (Nat.cast (R := Int) a)) - loOf Option.none) (List.drop (loOf Option.none) out) ++ [chD y]).length + (List.take (hiOf out.length Option.none - loOf (Option.some (Nat.cast (R := Int) a))) (List.drop (loOf (Option.some (Nat.cast (R := Int) a))) out)).length) * 88 ≤ 2 ^ 38)] [(RV.d (DV.bool (decide (0 < (Nat.cast (R := Int) a)))), RV.d (DV.bool false)), (RV.d (DV.bool false), RV.d (DV.bool false)), (RV.d (DV.bool false), RV.d (DV.bool false)), (RV.d (DV.agg (List.take 4 (List.drop 0 (all.getD (Nat.cast (R := Int) i).toNat DV.nilp).cells))), RV.d (DV.agg [DV.str y.1, DV.lst 3 (List.map vD y.2) false, DV.lst 3 (List.map vD y.3) false, DV.lst 3 (List.map vD y.4) false])), (RV.d (DV.int Go.IntKind.i64 (Go.IntKind.i64.wrap ((Nat.cast (R := Int) i) + 1))), RV.d (DV.int Go.IntKind.i64 (Nat.cast (R := Int) (i + 1))))] rfl (by kernel_rfl : runSegA (cfT tr1) 1000 0 _ _ _ _ (rgD all out (i : Int) (a : Int)) = some (stackAt rmgC 2, rgC all (splO out a (chD y)) ((i + 1 : Nat) : Int), _, _)) (by refine ⟨?_, ?_, ?_, ?_, ?_, ?_, ?_, ?_, ?_, ?_, ?_, trivial⟩ <;> (first | rfl | exact b1 | exact b2 | exact b4 | (refine decide_eq_true ?_; (try simp only [loOf, hiOf, Int.toNat_natCast, List.length_append, List.length_take, List.length_drop, List.length_singleton, List.length_nil]); omega))) (by refine ⟨?_, ?_, ?_, ?_, ?_, trivial⟩ <;> (first | exact le_bool hf | exact le_bool rfl | exact o4 | exact ov_succ (by omega))) ?_
          exact hd
        · rw [List.concat_eq_append] at hPe
          subst hPe
          have hz : z ∈ S := by rw [hPQ]; simp
          obtain ⟨hzo, hzk⟩ := hA z (hSm z hz)
          obtain ⟨b, hb⟩ : ∃ b, P'.length = b := ⟨_, rfl⟩
          have hab : b + 1 = a := by rw [← ha, ← hb]; simp
          have gz : S[b]? = some z := by
            rw [hPQ, List.append_assoc, ← hb]; exact get_mid _ _ _ _ rfl
          have hnx : cmpC y z < 0 → _ := fun h => ih2 (P', z :: Q) ⟨by rw [hPQ]; simp, fun w hw => by
            rcases List.mem_cons.1 hw with rfl | hw
            · exact h
            · exact hQ w hw⟩ (by simp)
          have hd := fun h : ¬ cmpC y z < 0 => hdone (.inr ⟨P', z, rfl, h⟩)
          simp only [hb] at hnx
          have c1 := bd_in gz
          have c2 := bd_in2 gz
          have c4 := bd_ble gz
          have p4 := ov_load gz
          have s1 : smC (toChg (chD y)) = true := by rw [toChg_chD]; exact keyed_sm hyk
          have s2 : smC (toChg (chD z)) = true := by rw [toChg_chD]; exact keyed_sm hzk
          have hf : decide ((0 : Int) < (Nat.cast (R := Int) a)) = true := decide_eq_true (by omega)
          have ha6 : a ≤ 1000000 := by omega
          obtain ⟨out, hout⟩ : ∃ out, S.map chD = out := ⟨_, rfl⟩
          obtain ⟨all, hall⟩ : ∃ all, A.map chD = all := ⟨_, rfl⟩
          rw [ha]
          rw [hout] at hd hnx hol c1 c2 c4 p4 ⊢
          rw [hall] at hd hnx b1 b2 b4 o4 ⊢
          clear ih ih2 hSm hA hdone hw
          by_cases hc : cmpC y z < 0
          · have hcc : decide (cmpC y z < 0) = true := decide_eq_true hc
            have hrun : runSegA (cfT tr1) 1000 0 [(89, RV.d (DV.bool true)), (90, RV.d (DV.bool true)), (94, RV.d (DV.agg [DV.str y.1, DV.lst 3 (List.map vD y.2) false, DV.lst 3 (List.map vD y.3) false, DV.lst 3 (List.map vD y.4) false])), (99, RV.d (DV.agg [DV.str z.1, DV.lst 3 (List.map vD z.2) false, DV.lst 3 (List.map vD z.3) false, DV.lst 3 (List.map vD z.4) false])), (97, RV.d (DV.int Go.IntKind.i64 (Nat.cast (R := Int) b))), (100, RV.d (DV.int Go.IntKind.i64 (Plain.cmpC y z))), (102, RV.d (DV.bool true)), (104, RV.d (DV.int Go.IntKind.i64 (Nat.cast (R := Int) b)))] [] [4, 9, 10, 11] (stackAt rmgC 3) (rgD all out (i : Int) (a : Int)) = some (stackAt rmgC 3, rgD all out (i : Int) (b : Int), [decide (0 ≤ (Nat.cast (R := Int) i) ∧ (Nat.cast (R := Int) i) < (Nat.cast (R := Int) all.length)), decide ((Nat.cast (R := Int) i).toNat < all.length), Nat.ble 4 (all.getD (Nat.cast (R := Int) i).toNat DV.nilp).cells.length, decide (0 ≤ (Nat.cast (R := Int) b) ∧ (Nat.cast (R := Int) b) < (Nat.cast (R := Int) out.length)), decide ((Nat.cast (R := Int) b).toNat < out.length), Nat.ble 4 (out.getD (Nat.cast (R := Int) b).toNat DV.nilp).cells.length, isC (DV.agg [DV.str y.1, DV.lst 3 (List.map vD y.2) false, DV.lst 3 (List.map vD y.3) false, DV.lst 3 (List.map vD y.4) false]), isC (DV.agg [DV.str z.1, DV.lst 3 (List.map vD z.2) false, DV.lst 3 (List.map vD z.3) false, DV.lst 3 (List.map vD z.4) false]), smC { t := y.1, k := List.map toVal (List.map vD y.k), o := List.map toVal (List.map vD y.o), n := List.map toVal (List.map vD y.n) }, smC { t := z.1, k := List.map toVal (List.map vD z.k), o := List.map toVal (List.map vD z.o), n := List.map toVal (List.map vD z.n) }], [(RV.d (DV.bool (decide (0 < (Nat.cast (R := Int) a)))), RV.d (DV.bool true)), (RV.d (DV.bool true), RV.d (DV.bool true)), (RV.d (DV.agg (List.take 4 (List.drop 0 (all.getD (Nat.cast (R := Int) i).toNat DV.nilp).cells))), RV.d (DV.agg [DV.str y.1, DV.lst 3 (List.map vD y.2) false, DV.lst 3 (List.map vD y.3) false, DV.lst 3 (List.map vD y.4) false])), (RV.d (DV.int Go.IntKind.i64 (Go.IntKind.i64.wrap ((Nat.cast (R := Int) a) - 1))), RV.d (DV.int Go.IntKind.i64 (Nat.cast (R := Int) b))), (RV.d (DV.agg (List.take 4 (List.drop 0 (out.getD (Nat.cast (R := Int) b).toNat DV.nilp).cells))), RV.d (DV.agg [DV.str z.1, DV.lst 3 (List.map vD z.2) false, DV.lst 3 (List.map vD z.3) false, DV.lst 3 (List.map vD z.4) false])), (RV.d (DV.int Go.IntKind.i64 (Plain.cmpC { t := y.1, k := List.map toVal (List.map vD y.k), o := List.map toVal (List.map vD y.o), n := List.map toVal (List.map vD y.n) } { t := z.1, k := List.map toVal (List.map vD z.k), o := List.map toVal (List.map vD z.o), n := List.map toVal (List.map vD z.n) })), RV.d (DV.int Go.IntKind.i64 (Plain.cmpC y z))), (RV.d (DV.bool (decide (Plain.cmpC y z < 0))), RV.d (DV.bool true)), (RV.d (DV.int Go.IntKind.i64 (Go.IntKind.i64.wrap ((Nat.cast (R := Int) a) - 1))), RV.d (DV.int Go.IntKind.i64 (Nat.cast (R := Int) b)))]) := by kernel_rfl
            refine WK.segA (st := (rgD all out (i : Int) (a : Int))) (st' := rgD all out (i : Int) (b : Int)) (k := (stackAt rmgC 3)) (k' := stackAt rmgC 3) ok 1000 0 _ _ _ _ _ rfl hrun (by refine ⟨?_, ?_, ?_, ?_, ?_, ?_, ?_, ?_, ?_, ?_, trivial⟩ <;> (first | rfl | exact b1 | exact b2 | exact b4 | exact c1 | exact c2 | exact c4 | exact isC_chD hyo | exact isC_chD hzo | exact s1 | exact s2)) (by refine ⟨?_, ?_, ?_, ?_, ?_, ?_, ?_, ?_, trivial⟩ <;> (first | exact le_bool hf | exact le_bool hcc | exact le_bool rfl | exact o4 | exact p4 | exact ov_C y z | exact ov_dec hab ha6)) ?_
            exact hnx hc
          · have hcc : decide (cmpC y z < 0) = false := decide_eq_false hc
            have hd' := hd hc
            refine WK.segA ok 1000 0 [(89, RV.d (DV.bool true)), (90, RV.d (DV.bool true)), (94, RV.d (DV.agg [DV.str y.1, DV.lst 3 (List.map vD y.2) false, DV.lst 3 (List.map vD y.3) false, DV.lst 3 (List.map vD y.4) false])), (99, RV.d (DV.agg [DV.str z.1, DV.lst 3 (List.map vD z.2) false, DV.lst 3 (List.map vD z.3) false, DV.lst 3 (List.map vD z.4) false])), (97, RV.d (DV.int Go.IntKind.i64 (Nat.cast (R := Int) b))), (100, RV.d (DV.int Go.IntKind.i64 (Plain.cmpC y z))), (102, RV.d (DV.bool false)), (114, RV.d (DV.agg [DV.str y.1, DV.lst 3 (List.map vD y.2) false, DV.lst 3 (List.map vD y.3) false, DV.lst 3 (List.map vD y.4) false])), (74, RV.d (DV.int Go.IntKind.i64 (Nat.cast (R := Int) (i + 1))))] [] [4, 9, 10] [decide (0 ≤ (Nat.cast (R := Int) i) ∧ (Nat.cast (R := Int) i) < (Nat.cast (R := Int) all.length)), decide ((Nat.cast (R := Int) i).toNat < all.length), Nat.ble 4 (all.getD (Nat.cast (R := Int) i).toNat DV.nilp).cells.length, decide (0 ≤ (Nat.cast (R := Int) b) ∧ (Nat.cast (R := Int) b) < (Nat.cast (R := Int) out.length)), decide ((Nat.cast (R := Int) b).toNat < out.length), Nat.ble 4 (out.getD (Nat.cast (R := Int) b).toNat DV.nilp).cells.length, isC (DV.agg [DV.str y.1, DV.lst 3 (List.map vD y.2) false, DV.lst 3 (List.map vD y.3) false, DV.lst 3 (List.map vD y.4) false]), isC (DV.agg [DV.str z.1, DV.lst 3 (List.map vD z.2) false, DV.lst 3 (List.map vD z.3) false, DV.lst 3 (List.map vD z.4) false]), smC { t := y.1, k := List.map toVal (List.map vD y.k), o := List.map toVal (List.map vD y.o), n := List.map toVal (List.map vD y.n) }, smC { t := z.1, k := List.map toVal (List.map vD z.k), o := List.map toVal (List.map vD z.o), n := List.map toVal (List.map vD z.n) }, decide (0 ≤ (Nat.cast (R := Int) a) ∧ (Nat.cast (R := Int) a) ≤ (Nat.cast (R := Int) out.length)), decide (loOf Option.none + (hiOf out.length (Option.some (Nat.cast (R := Int) a)) - loOf Option.none) ≤ out.length), decide ((([] : List DV).length + (List.take (hiOf out.length (Option.some (Nat.cast (R := Int) a)) - loOf Option.none) (List.drop (loOf Option.none) out)).length) * 88 ≤ 2 ^ 38), true, decide (0 ≤ (Nat.cast (R := Int) i) ∧ (Nat.cast (R := Int) i) < (Nat.cast (R := Int) all.length)), decide ((Nat.cast (R := Int) i).toNat < all.length), Nat.ble 4 (all.getD (Nat.cast (R := Int) i).toNat DV.nilp).cells.length, decide ((([] ++ List.take (hiOf out.length (Option.some (Nat.cast (R := Int) a)) - loOf Option.none) (List.drop (loOf Option.none) out)).length + [chD y].length) * 88 ≤ 2 ^ 38), decide (0 ≤ (Nat.cast (R := Int) a) ∧ (Nat.cast (R := Int) a) ≤ (Nat.cast (R := Int) out.length)), decide (loOf (Option.some (Nat.cast (R := Int) a)) + (hiOf out.length Option.none - loOf (Option.some (Nat.cast (R := Int) a))) ≤ out.length), decide ((([] ++ List.take (hiOf out.length (Option.some (Nat.cast (R := Int) a)) - loOf Option.none) (List.drop (loOf Option.none) out) ++ [chD y]).length + (List.take (hiOf out.length Option.none - loOf (Option.some (Nat.cast (R := Int) a))) (List.drop (loOf (Option.some (Nat.cast (R := Int) a))) out)).length) * 88 ≤ 2 ^ 38)] [(RV.d (DV.bool (decide (0 < (Nat.cast (R := Int) a)))), RV.d (DV.bool true)), (RV.d (DV.bool true), RV.d (DV.bool true)), (RV.d (DV.agg (List.take 4 (List.drop 0 (all.getD (Nat.cast (R := Int) i).toNat DV.nilp).cells))), RV.d (DV.agg [DV.str y.1, DV.lst 3 (List.map vD y.2) false, DV.lst 3 (List.map vD y.3) false, DV.lst 3 (List.map vD y.4) false])), (RV.d (DV.int Go.IntKind.i64 (Go.IntKind.i64.wrap ((Nat.cast (R := Int) a) - 1))), RV.d (DV.int Go.IntKind.i64 (Nat.cast (R := Int) b))), (RV.d (DV.agg (List.take 4 (List.drop 0 (out.getD (Nat.cast (R := Int) b).toNat DV.nilp).cells))), RV.d (DV.agg [DV.str z.1, DV.lst 3 (List.map vD z.2) false, DV.lst 3 (List.map vD z.3) false, DV.lst 3 (List.map vD z.4) false])), (RV.d (DV.int Go.IntKind.i64 (Plain.cmpC { t := y.1, k := List.map toVal (List.map vD y.k), o := List.map toVal (List.map vD y.o), n := List.map toVal (List.map vD y.n) } { t := z.1, k := List.map toVal (List.map vD z.k), o := List.map toVal (List.map vD z.o), n := List.map toVal (List.map vD z.n) })), RV.d (DV.int Go.IntKind.i64 (Plain.cmpC y z))), (RV.d (DV.bool (decide (Plain.cmpC y z < 0))), RV.d (DV.bool false)), (RV.d (DV.agg (List.take 4 (List.drop 0 (all.getD (Nat.cast (R := Int) i).toNat DV.nilp).cells))), RV.d (DV.agg [DV.str y.1, DV.lst 3 (List.map vD y.2) false, DV.lst 3 (List.map vD y.3) false, DV.lst 3 (List.map vD y.4) false])), (RV.d (DV.int Go.IntKind.i64 (Go.IntKind.i64.wrap ((Nat.cast (R := Int) i) + 1))), RV.d (DV.int Go.IntKind.i64 (Nat.cast (R := Int) (i + 1))))] rfl (by kernel_rfl : runSegA (cfT tr1) 1000 0 _ _ _ _ (rgD all out (i : Int) (a : Int)) = some (stackAt rmgC 2, rgC all (splO out a (chD y)) ((i + 1 : Nat) : Int), _, _)) (by refine ⟨?_, ?_, ?_, ?_, ?_, ?_, ?_, ?_, ?_, ?_, ?_, ?_, ?_, ?_, ?_, ?_, ?_, ?_, ?_, ?_, ?_, trivial⟩ <;> (first | rfl | exact b1 | exact b2 | exact b4 | exact c1 | exact c2 | exact c4 | exact isC_chD hyo | exact isC_chD hzo | exact s1 | exact s2 | (refine decide_eq_true ?_; (try simp only [loOf, hiOf, Int.toNat_natCast, List.length_append, List.length_take, List.length_drop, List.length_singleton, List.length_nil]); omega))) (by refine ⟨?_, ?_, ?_, ?_, ?_, ?_, ?_, ?_, ?_, trivial⟩ <;> (first | exact le_bool hf | exact le_bool hcc | exact le_bool rfl | exact o4 | exact p4 | exact ov_C y z | exact ov_dec hab ha6 | exact ov_succ (by omega))) ?_
            exact hd'
      obtain ⟨out, hout⟩ : ∃ out, S.map chD = out := ⟨_, rfl⟩
      obtain ⟨all, hall⟩ : ∃ all, A.map chD = all := ⟨_, rfl⟩
      rw [hout] at hD ⊢
      rw [hall] at hD b1 b2 b3 b4 o1 o2 hlt' ⊢
      clear ih hSm hA hw
      refine WK.segA ok 1000 0 [(72, RV.d (DV.bool true)), (79, RV.d (DV.lst 3 (List.map vD y.3) false)), (84, RV.d (DV.lst 3 (List.map vD y.4) false)), (85, RV.d (DV.bool false))] [] [4, 9, 10, 11] [decide (0 ≤ (Nat.cast (R := Int) i) ∧ (Nat.cast (R := Int) i) < (Nat.cast (R := Int) all.length)), decide ((Nat.cast (R := Int) i).toNat < all.length), Nat.ble 3 (all.getD (Nat.cast (R := Int) i).toNat DV.nilp).cells.length, decide (0 ≤ (Nat.cast (R := Int) i) ∧ (Nat.cast (R := Int) i) < (Nat.cast (R := Int) all.length)), decide ((Nat.cast (R := Int) i).toNat < all.length), Nat.ble 4 (all.getD (Nat.cast (R := Int) i).toNat DV.nilp).cells.length, decide ((List.map vD y.o).length ≤ 65536) && (List.map vD y.3).all isVal && true && true, decide ((List.map vD y.n).length ≤ 65536) && (List.map vD y.4).all isVal && true && true] [(RV.d (DV.bool (decide ((Nat.cast (R := Int) i) < (Nat.cast (R := Int) all.length)))), RV.d (DV.bool true)), (RV.d ((all.getD (Nat.cast (R := Int) i).toNat DV.nilp).cells.getD 2 DV.nilp), RV.d (DV.lst 3 (List.map vD y.3) false)), (RV.d ((all.getD (Nat.cast (R := Int) i).toNat DV.nilp).cells.getD 3 DV.nilp), RV.d (DV.lst 3 (List.map vD y.4) false)), (RV.d (DV.bool (decide (unR (rD y.o) = unR (rD y.n)))), RV.d (DV.bool false))] rfl (by kernel_rfl : runSegA (cfT tr1) 1000 0 _ _ _ _ (rgC all out (i : Int)) = some (stackAt rmgC 3, rgD all out (i : Int) (out.length : Int), _, _)) (by refine ⟨?_, ?_, ?_, ?_, ?_, ?_, ?_, ?_, trivial⟩ <;> (first | exact b1 | exact b2 | exact b3 | exact b4 | exact ok_o hyo | exact ok_n hyo)) (by refine ⟨?_, ?_, ?_, ?_, trivial⟩ <;> (first | exact le_bool hlt' | exact o1 | exact o2 | exact o3)) ?_
      exact hD
  · have e : A.take i = A := List.take_of_length_le (by omega)
    rw [e] at hSm hSl ⊢
    have hM : mergeC L = if mayL (Srt.isort cmpC (live A)) then (Srt.isort cmpC (live A), 0) else ([], 2) := by unfold mergeC; rw [hR]
    have hf : decide ((Nat.cast (R := Int) i) < (Nat.cast (R := Int) (A.map chD).length)) = false := decide_eq_false (by omega)
    have kS : isL (.lst 4 ((Srt.isort cmpC (live A)).map chD) false) = true := isL_chL (l := Srt.isort cmpC (live A)) ⟨by omega, fun c hc => (hA c (hSm c hc)).1⟩
    have eS : unL (.lst 4 ((Srt.isort cmpC (live A)).map chD) false) = Srt.isort cmpC (live A) := unL_chL _
    show WK Try.prog 0 _ _ (Ends (Try.f50.results.toList) (.tup [.d (chL (mergeC L).1), .d (.int .i64 (mergeC L).2)]))
    rw [hM]
    by_cases hm : mayL (Srt.isort cmpC (live A)) = true
    · rw [if_pos hm]
      have q1 : RVle (.d (.bool (!mayL (unL (.lst 4 ((Srt.isort cmpC (live A)).map chD) false))))) (.d (.bool false)) := le_bool (by rw [eS, hm]; rfl)
      show WK Try.prog 0 _ _ (Ends _ (.tup [.d (.lst 4 ((Srt.isort cmpC (live A)).map chD) false), .d (.int .i64 0)]))
      obtain ⟨out, hout⟩ : ∃ out, (Srt.isort cmpC (live A)).map chD = out := ⟨_, rfl⟩
      obtain ⟨all, hall⟩ : ∃ all, A.map chD = all := ⟨_, rfl⟩
      rw [hout] at q1 kS ⊢
      rw [hall] at hf ⊢
      clear ih hSm hA
      exact WK.fin ok 1000 0 [(72, RV.d (DV.bool false)), (124, RV.d (DV.bool false))] [isL (DV.lst 4 out false)] [(RV.d (DV.bool (decide ((Nat.cast (R := Int) i) < (Nat.cast (R := Int) all.length)))), RV.d (DV.bool false)), (RV.d (DV.bool !Plain.mayL (unL (DV.lst (4) out false))), RV.d (DV.bool false))] rfl (by kernel_rfl : runEnd (cfT tr1) true _ 1000 0 _ _ (rgC all out (i : Int)) = some (RV.tup [RV.d (DV.lst 4 out false), RV.d (DV.int Go.IntKind.i64 (0))], [], _, _)) ⟨(by exact kS), trivial⟩ (by refine ⟨?_, ?_, trivial⟩ <;> (first | exact le_bool hf | exact q1)) ⟨rfl, rfl⟩
    · have hm' : mayL (Srt.isort cmpC (live A)) = false := by simpa using hm
      rw [if_neg hm]
      have q1 : RVle (.d (.bool (!mayL (unL (.lst 4 ((Srt.isort cmpC (live A)).map chD) false))))) (.d (.bool true)) := le_bool (by rw [eS, hm']; rfl)
      obtain ⟨out, hout⟩ : ∃ out, (Srt.isort cmpC (live A)).map chD = out := ⟨_, rfl⟩
      obtain ⟨all, hall⟩ : ∃ all, A.map chD = all := ⟨_, rfl⟩
      rw [hout] at q1 kS ⊢
      rw [hall] at hf ⊢
      clear ih hSm hA
      exact WK.fin ok 1000 0 [(72, RV.d (DV.bool false)), (124, RV.d (DV.bool true)), (2, RV.d (DV.lst 4 [] false))] [isL (DV.lst 4 out false)] [(RV.d (DV.bool (decide ((Nat.cast (R := Int) i) < (Nat.cast (R := Int) all.length)))), RV.d (DV.bool false)), (RV.d (DV.bool !Plain.mayL (unL (DV.lst (4) out false))), RV.d (DV.bool true)), (RV.d (DV.lst 0 [] true), RV.d (DV.lst 4 [] false))] rfl (by kernel_rfl : runEnd (cfT tr1) true _ 1000 0 _ _ (rgC all out (i : Int)) = some (RV.tup [RV.d (DV.lst 4 [] false), RV.d (DV.int Go.IntKind.i64 (2))], [], _, _)) ⟨(by exact kS), trivial⟩ (by refine ⟨?_, ?_, ?_, trivial⟩ <;> (first | exact le_bool hf | exact q1 | exact nil_leM)) ⟨rfl, rfl⟩
set_option maxHeartbeats 4000000 in
theorem rmerge_c (L : List Chg) (hok : okL L) (hm : ∀ x ∈ L, mayC x = true) (hl6 : L.length ≤ 10000) : C Try.prog 50 [.d (chL L)] [] (fun r o => r = .tup [.d (chL (mergeC L).1), .d (.int .i64 (mergeC L).2)] ∧ o = []) := by
  have ok := cfT_ok tr1_ok
  refine C_of_run (fn := Try.f50) (body := rmgC) true (by kernel_rfl) (by kernel_rfl) (by kernel_rfl) ?_
  have hloop : WK Try.prog 0 (stackAt rmgC 0) (rgA [] (L.map chD) 0).den (EndsR L) := by
    have key := WK.rec' (P := Try.prog) (m := 0) (k := stackAt rmgC 0) (Q := EndsR L) (fun (q : Nat × List Chg) => rgA (q.2.map chD) (L.map chD) (q.1 : Int)) (fun q => q.1 ≤ L.length ∧ q.2.length ≤ q.1 ∧ mFold q.2 (L.drop q.1) = mFold [] L ∧ nokey q.2 ∧ (∀ y ∈ q.2, Chg.ok y ∧ keyed y)) (fun q => L.length - q.1) ?_ (0, []) ⟨Nat.zero_le _, Nat.le_refl _, rfl, trivial, by simp⟩
    · exact key
    rintro ⟨i, A⟩ ⟨hi, hA6, hfold, hnk, hA⟩ ih
    simp only at hi hA6 hfold hnk hA ih ⊢
    have hal : (A.map chD).length = A.length := List.length_map ..
    by_cases hlt : i < L.length
    · obtain ⟨x, hx⟩ : ∃ x, L[i] = x := ⟨_, rfl⟩
      have hxm : x ∈ L := by rw [← hx]; exact List.getElem_mem _
      have hxo := hok.2 x hxm
      have mx := hm x hxm
      have ex : L.drop i = x :: L.drop (i + 1) := by rw [List.drop_eq_getElem_cons hlt, hx]
      rw [ex] at hfold
      have hb1 := bd_map (f := chD) hlt
      have hb2 := ov_chg hlt hx
      have hb3 : decide ((Nat.cast (R := Int) i) < (Nat.cast (R := Int) (L.map chD).length)) = true := decide_eq_true (by rw [List.length_map]; omega)
      have hfe : decide ((Nat.cast (R := Int) A.length) < (Nat.cast (R := Int) (A.map chD).length)) = false := decide_eq_false (by omega)
      have hstart : WK Try.prog 0 (stackAt rmgC 1) (rgB (A.map chD) (L.map chD) (i : Int) x (-1) 0).den (EndsR L) := by
        cases hf : A.findIdx? (fun y => keyB y x) with
        | none =>
          refine rg_inner L A x i hxo hnk (fun y hy => (hA y hy).1) (by omega) (-1) (by rw [hf]) ?_
          have hst : mStep A x = some (A ++ [x]) := by unfold mStep; rw [hf]
          simp only [mFold, hst] at hfold
          have hw := ih (i + 1, A ++ [x]) ⟨hlt, by simp only [List.length_append, List.length_singleton]; omega, hfold, nokey_snoc hnk hf, fun y hy => by
            rcases List.mem_append.1 hy with hy | hy
            · exact hA y hy
            · rw [List.mem_singleton.1 hy]; exact ⟨hxo, x, hxo, mx, rfl, rfl⟩⟩ (by simp only; omega)
          simp only [List.map_append, List.map_cons, List.map_nil] at hw
          obtain ⟨k, hk⟩ : ∃ k, A.length = k := ⟨_, rfl⟩
          rw [hk] at hfe hal hA6 ⊢
          obtain ⟨all, hall⟩ : ∃ all, A.map chD = all := ⟨_, rfl⟩
          obtain ⟨l, hl⟩ : ∃ l, L.map chD = l := ⟨_, rfl⟩
          rw [hall] at hw hal hfe ⊢
          rw [hl] at hw ⊢
          clear ih hfold hA hb1 hb2 hb3
          refine WK.segA ok 1000 0 [(26, RV.d (DV.bool false)), (49, RV.d (DV.bool true)), (18, RV.d (DV.int Go.IntKind.i64 (Nat.cast (R := Int) (i + 1))))] [] [0, 4, 5] [decide ((all.length + [DV.agg [DV.str x.t, rD x.k, rD x.o, rD x.n]].length) * 88 ≤ 2 ^ 38)] [(RV.d (DV.bool (decide ((Nat.cast (R := Int) k) < (Nat.cast (R := Int) all.length)))), RV.d (DV.bool false)), (RV.d (DV.bool true), RV.d (DV.bool true)), (RV.d (DV.int Go.IntKind.i64 (Go.IntKind.i64.wrap ((Nat.cast (R := Int) i) + 1))), RV.d (DV.int Go.IntKind.i64 (Nat.cast (R := Int) (i + 1))))] rfl (by kernel_rfl : runSegA (cfT tr1) 1000 0 _ _ _ _ (rgB all l (i : Int) x (-1) (k : Int)) = some (stackAt rmgC 0, rgA (all ++ [chD x]) l ((i + 1 : Nat) : Int), _, _)) ⟨(by (refine decide_eq_true ?_; simp only [List.length_singleton]; omega)), trivial⟩ (by refine ⟨?_, ?_, ?_, trivial⟩ <;> (first | exact le_bool hfe | exact le_bool rfl | exact ov_succ (by omega))) ?_
          exact hw
        | some j =>
          obtain ⟨hjl, hjk, _⟩ := List.findIdx?_eq_some_iff_getElem.1 hf
          obtain ⟨y, hy⟩ : ∃ y, A[j] = y := ⟨_, rfl⟩
          have gy : A[j]? = some y := by rw [List.getElem?_eq_getElem hjl, hy]
          obtain ⟨hyo, hyk⟩ := hA y (List.mem_of_getElem? gy)
          refine rg_inner L A x i hxo hnk (fun y hy => (hA y hy).1) (by omega) (j : Int) (by rw [hf]) ?_
          have by1 := bd_in gy
          have by2 := bd_in2 gy
          have by3 := bd_ble gy
          have by4 := ov_fld gy
          obtain ⟨k, hk⟩ : ∃ k, A.length = k := ⟨_, rfl⟩
          rw [hk] at hfe hal hA6 ⊢
          by_cases hyx : y.n = x.o
          · have hst : mStep A x = some (A.set j ⟨y.t, y.k, y.o, x.n⟩) := by unfold mStep; rw [hf]; simp only [gy]; rw [if_pos hyx]
            simp only [mFold, hst] at hfold
            have hw := ih (i + 1, A.set j ⟨y.t, y.k, y.o, x.n⟩) ⟨hlt, by simp only [List.length_set]; omega, hfold, nokey_set (y := y) (z := ⟨y.t, y.k, y.o, x.n⟩) rfl rfl hnk gy, fun z hz => by
              rcases List.mem_or_eq_of_mem_set hz with hz | rfl
              · exact hA z hz
              · obtain ⟨q, q1, q2, q3, q4⟩ := hyk
                exact ⟨ok_set hyo hxo, q, q1, q2, q3, q4⟩⟩ (by simp only; omega)
            simp only at hw
            rw [← set_fld gy] at hw
            have hsame : RVle (.d (.bool (!decide (unR (rD y.n) = unR (rD x.o))))) (.d (.bool false)) := le_bool (by rw [unR_rD, unR_rD, decide_eq_true hyx]; rfl)
            obtain ⟨all, hall⟩ : ∃ all, A.map chD = all := ⟨_, rfl⟩
            obtain ⟨l, hl⟩ : ∃ l, L.map chD = l := ⟨_, rfl⟩
            rw [hall] at hw hal hfe by1 by2 by3 by4 ⊢
            rw [hl] at hw ⊢
            clear ih hfold hA hb1 hb2 hb3
            refine WK.segA ok 1000 0 [(26, RV.d (DV.bool false)), (49, RV.d (DV.bool false)), (58, RV.d (DV.lst 3 (List.map vD y.4) false)), (62, RV.d (DV.bool false)), (18, RV.d (DV.int Go.IntKind.i64 (Nat.cast (R := Int) (i + 1))))] [] [0, 4, 5] [decide (0 ≤ (Nat.cast (R := Int) j) ∧ (Nat.cast (R := Int) j) < (Nat.cast (R := Int) all.length)), decide ((Nat.cast (R := Int) j).toNat < all.length), Nat.ble 4 (all.getD (Nat.cast (R := Int) j).toNat DV.nilp).cells.length, decide ((List.map vD y.n).length ≤ 65536) && (List.map vD y.4).all isVal && true && true, decide ((List.map vD x.o).length ≤ 65536) && (List.map vD x.3).all isVal && true && true, decide (0 ≤ (Nat.cast (R := Int) j) ∧ (Nat.cast (R := Int) j) < (Nat.cast (R := Int) all.length)), decide ((Nat.cast (R := Int) j).toNat < all.length), Nat.ble 4 (all.getD (Nat.cast (R := Int) j).toNat DV.nilp).cells.length] [(RV.d (DV.bool (decide ((Nat.cast (R := Int) k) < (Nat.cast (R := Int) all.length)))), RV.d (DV.bool false)), (RV.d (DV.bool false), RV.d (DV.bool false)), (RV.d ((all.getD (Nat.cast (R := Int) j).toNat DV.nilp).cells.getD 3 DV.nilp), RV.d (DV.lst 3 (List.map vD y.4) false)), (RV.d (DV.bool !decide (unR (rD y.n) = unR (rD x.o))), RV.d (DV.bool false)), (RV.d (DV.int Go.IntKind.i64 (Go.IntKind.i64.wrap ((Nat.cast (R := Int) i) + 1))), RV.d (DV.int Go.IntKind.i64 (Nat.cast (R := Int) (i + 1))))] rfl (by kernel_rfl : runSegA (cfT tr1) 1000 0 _ _ _ _ (rgB all l (i : Int) x (j : Int) (k : Int)) = some (stackAt rmgC 0, rgA (all.set j (.agg (splice ((all.getD j .nilp).cells) 3 [rD x.n]))) l ((i + 1 : Nat) : Int), _, _)) (by refine ⟨?_, ?_, ?_, ?_, ?_, ?_, ?_, ?_, trivial⟩ <;> (first | exact by1 | exact by2 | exact by3 | exact ok_n hyo | exact ok_o hxo)) (by refine ⟨?_, ?_, ?_, ?_, ?_, trivial⟩ <;> (first | exact le_bool hfe | exact le_bool (decide_eq_false (by omega)) | exact le_bool rfl | exact by4 | exact hsame | exact ov_succ (by omega))) ?_
            exact hw
          · have hst : mStep A x = none := by unfold mStep; rw [hf]; simp only [gy]; rw [if_neg hyx]
            simp only [mFold, hst] at hfold
            have hR : mergeC L = ([], 220) := by unfold mergeC; rw [← hfold]
            show WK Try.prog 0 _ _ (Ends (Try.f50.results.toList) (.tup [.d (chL (mergeC L).1), .d (.int .i64 (mergeC L).2)]))
            rw [hR]
            have hsame : RVle (.d (.bool (!decide (unR (rD y.n) = unR (rD x.o))))) (.d (.bool true)) := le_bool (by rw [unR_rD, unR_rD, decide_eq_false hyx]; rfl)
            obtain ⟨all, hall⟩ : ∃ all, A.map chD = all := ⟨_, rfl⟩
            obtain ⟨l, hl⟩ : ∃ l, L.map chD = l := ⟨_, rfl⟩
            rw [hall] at hal hfe by1 by2 by3 by4 ⊢
            rw [hl]
            clear ih hfold hA hb1 hb2 hb3
            exact WK.fin ok 1000 0 [(26, RV.d (DV.bool false)), (49, RV.d (DV.bool false)), (58, RV.d (DV.lst 3 (List.map vD y.4) false)), (62, RV.d (DV.bool true)), (2, RV.d (DV.lst 4 [] false))] [decide (0 ≤ (Nat.cast (R := Int) j) ∧ (Nat.cast (R := Int) j) < (Nat.cast (R := Int) all.length)), decide ((Nat.cast (R := Int) j).toNat < all.length), Nat.ble 4 (all.getD (Nat.cast (R := Int) j).toNat DV.nilp).cells.length, decide ((List.map vD y.n).length ≤ 65536) && (List.map vD y.4).all isVal && true && true, decide ((List.map vD x.o).length ≤ 65536) && (List.map vD x.3).all isVal && true && true] [(RV.d (DV.bool (decide ((Nat.cast (R := Int) k) < (Nat.cast (R := Int) all.length)))), RV.d (DV.bool false)), (RV.d (DV.bool false), RV.d (DV.bool false)), (RV.d ((all.getD (Nat.cast (R := Int) j).toNat DV.nilp).cells.getD 3 DV.nilp), RV.d (DV.lst 3 (List.map vD y.4) false)), (RV.d (DV.bool !decide (unR (rD y.n) = unR (rD x.o))), RV.d (DV.bool true)), (RV.d (DV.lst 0 [] true), RV.d (DV.lst 4 [] false))] rfl (by kernel_rfl : runEnd (cfT tr1) true _ 1000 0 _ _ (rgB all l (i : Int) x (j : Int) (k : Int)) = some (RV.tup [RV.d (DV.lst 4 [] false), RV.d (DV.int Go.IntKind.i64 (220))], [], _, _)) (by refine ⟨?_, ?_, ?_, ?_, ?_, trivial⟩ <;> (first | exact by1 | exact by2 | exact by3 | exact ok_n hyo | exact ok_o hxo)) (by refine ⟨?_, ?_, ?_, ?_, ?_, trivial⟩ <;> (first | exact le_bool hfe | exact le_bool (decide_eq_false (by omega)) | exact le_bool rfl | exact by4 | exact hsame | exact nil_leM)) ⟨rfl, rfl⟩
      obtain ⟨all, hall⟩ : ∃ all, A.map chD = all := ⟨_, rfl⟩
      obtain ⟨l, hl⟩ : ∃ l, L.map chD = l := ⟨_, rfl⟩
      rw [hall] at hstart ⊢
      rw [hl] at hstart hb1 hb2 hb3 ⊢
      clear ih hfold hA
      refine WK.segA ok 1000 0 [(16, RV.d (DV.bool true)), (21, RV.iptr (DV.agg [DV.str x.1, DV.lst 3 (List.map vD x.2) false, DV.lst 3 (List.map vD x.3) false, DV.lst 3 (List.map vD x.4) false]) 0)] [] [0, 4, 5, 6, 7, 8] [decide (0 ≤ (Nat.cast (R := Int) i) ∧ (Nat.cast (R := Int) i) < (Nat.cast (R := Int) l.length))] [(RV.d (DV.bool (decide ((Nat.cast (R := Int) i) < (Nat.cast (R := Int) l.length)))), RV.d (DV.bool true)), (RV.iptr (l.getD (Nat.cast (R := Int) i).toNat DV.nilp) 0, RV.iptr (DV.agg [DV.str x.1, DV.lst 3 (List.map vD x.2) false, DV.lst 3 (List.map vD x.3) false, DV.lst 3 (List.map vD x.4) false]) 0)] rfl (by kernel_rfl : runSegA (cfT tr1) 1000 0 _ _ _ _ (rgA all l (i : Int)) = some (stackAt rmgC 1, rgB all l (i : Int) x (-1) 0, _, _)) ⟨(by exact hb1), trivial⟩ (by refine ⟨?_, ?_, trivial⟩ <;> (first | exact le_bool hb3 | exact hb2)) ?_
      exact hstart
    · have e : i = L.length := by omega
      rw [e, List.drop_eq_nil_of_le (Nat.le_refl _)] at hfold
      simp only [mFold] at hfold
      have hw := rg_sort L A hfold.symm hA (by omega)
      have hf : decide ((Nat.cast (R := Int) i) < (Nat.cast (R := Int) (L.map chD).length)) = false := decide_eq_false (by rw [List.length_map]; omega)
      obtain ⟨all, hall⟩ : ∃ all, A.map chD = all := ⟨_, rfl⟩
      obtain ⟨l, hl⟩ : ∃ l, L.map chD = l := ⟨_, rfl⟩
      rw [hall] at hw ⊢
      rw [hl] at hf ⊢
      clear ih hA hfold
      refine WK.segA ok 1000 0 [(16, RV.d (DV.bool false))] [(9, 251, chT, 4)] [4, 9, 10] [] [(RV.d (DV.bool (decide ((Nat.cast (R := Int) i) < (Nat.cast (R := Int) l.length)))), RV.d (DV.bool false))] rfl (by kernel_rfl : runSegA (cfT tr1) 1000 0 _ _ _ _ (rgA all l (i : Int)) = some (stackAt rmgC 2, rgC all [] 0, _, _)) trivial ⟨(by exact le_bool hf), trivial⟩ ?_
      exact hw
  obtain ⟨l, hl⟩ : ∃ l, L.map chD = l := ⟨_, rfl⟩
  show WK Try.prog 0 _ (ini 126 [.d (.lst 4 (L.map chD) false)] []).den _
  rw [hl] at hloop ⊢
  refine WK.segA ok 1000 0 [] [(4, 250, chT, 4)] [0, 4, 5] [] [] rfl (by kernel_rfl : runSegA (cfT tr1) 1000 0 _ _ _ _ (ini 126 [.d (.lst 4 l false)] []) = some (stackAt rmgC 0, rgA [] l 0, _, _)) trivial trivial ?_
  exact hloop
end Go.Proofs.Ytljfolepmkcjlaa

/-
  The law's bound on sizes (great, of the laws on changes); the reference's Concat.
-/
namespace Go.Proofs.Ytljfolepmkcjlaa
open Go.RowKit Plain Am IntWalk
set_option maxRecDepth 100000
set_option linter.unusedVariables false
set_option linter.unusedSimpArgs false

noncomputable abbrev g2C : Code := bodyOf Try.f23
def g2S (l : List DV) (n i : Int) : ESt := { n := 57, m := 0, regs := T.mk [(0, .d (.lst 4 l false)), (3, .d (.int .i64 n)), (10, .d (.lst 4 l false)), (11, .d (.int .i64 (l.length : Int))), (12, .d (.int .i64 i))], objs := T.nil }
def g2R (l : List DV) (n i : Int) (c : Chg) (j : Int) : ESt := { n := 57, m := 0, regs := T.mk [(0, .d (.lst 4 l false)), (3, .d (.int .i64 n)), (10, .d (.lst 4 l false)), (11, .d (.int .i64 (l.length : Int))), (12, .d (.int .i64 i)), (29, .d (.agg [rD c.k, rD c.o, rD c.n])), (30, .d (.int .i64 j))], objs := T.nil }
def g2V (l : List DV) (n i : Int) (c : Chg) (j : Int) (row : List DV) (q : Int) : ESt := { n := 57, m := 0, regs := T.mk [(0, .d (.lst 4 l false)), (3, .d (.int .i64 n)), (10, .d (.lst 4 l false)), (11, .d (.int .i64 (l.length : Int))), (12, .d (.int .i64 i)), (29, .d (.agg [rD c.k, rD c.o, rD c.n])), (30, .d (.int .i64 j)), (36, .d (.lst 3 row false)), (37, .d (.int .i64 (row.length : Int))), (38, .d (.int .i64 q))], objs := T.nil }
def m8 (s : Bs) : Int := if (8192 : Int) < (Nat.cast (R := Int) s.length) then 8192 else (Nat.cast (R := Int) s.length)
def m4 (s : Bs) : Int := if (4096 : Int) < (Nat.cast (R := Int) s.length) then 4096 else (Nat.cast (R := Int) s.length)
def sum8 (n : Int) (row : List Val) : Int := row.foldl (fun a v => a + (1 + m8 v.s)) n
def gr2Go : Int → List Chg → Bool
  | _, [] => false
  | n, x :: r => decide (40 < x.k.length) || decide (40 < x.o.length) || decide (40 < x.n.length) || decide (32768 < sum8 (sum8 (sum8 (n + (4 + m4 x.t)) x.k) x.o) x.n) || gr2Go (sum8 (sum8 (sum8 (n + (4 + m4 x.t)) x.k) x.o) x.n) r
def great2 (l : List Chg) : Bool := gr2Go 0 l || decide (1200 < l.length)
theorem m8_b (s : Bs) : 0 ≤ m8 s ∧ m8 s ≤ 8192 := by unfold m8; split <;> omega
theorem m4_b (s : Bs) : 0 ≤ m4 s ∧ m4 s ≤ 4096 := by unfold m4; split <;> omega
theorem sum8_app (n : Int) (a b : List Val) : sum8 n (a ++ b) = sum8 (sum8 n a) b := by unfold sum8; rw [List.foldl_append]
theorem sum8_b : ∀ (row : List Val) (n : Int), n ≤ sum8 n row ∧ sum8 n row ≤ n + 8193 * row.length
  | [], n => by simp [sum8]
  | v :: r, n => by
    have h := sum8_b r (n + (1 + m8 v.s))
    have hm := m8_b v.s
    have e : sum8 n (v :: r) = sum8 (n + (1 + m8 v.s)) r := rfl
    rw [e, List.length_cons]
    omega
theorem gr2Go_no : ∀ {l : List Chg} {n : Int}, gr2Go n l = false → ∀ c ∈ l, c.k.length ≤ 40 ∧ c.o.length ≤ 40 ∧ c.n.length ≤ 40
  | [], _, _, c, hc => by simp at hc
  | x :: r, n, h, c, hc => by
    simp only [gr2Go, Bool.or_eq_false_iff, decide_eq_false_iff_not] at h
    rcases List.mem_cons.1 hc with rfl | hc
    · omega
    · exact gr2Go_no h.2 c hc
theorem great2_no {l : List Chg} (h : great2 l = false) (hw : ∀ c ∈ l, c.wf) : okL l := by
  simp only [great2, Bool.or_eq_false_iff, decide_eq_false_iff_not] at h
  refine ⟨by omega, fun c hc => ?_⟩
  have := gr2Go_no h.1 c hc
  exact ⟨hw c hc, by omega, by omega, by omega⟩
abbrev EndsG2 (b : Bool) : SSt → Prop := Ends (Try.f23.results.toList) (.d (.bool b))
theorem ov_m4 {n n2 : Int} {t : Bs} (h : n + (4 + m4 t) = n2) (hn : 0 ≤ n ∧ n ≤ 1000000) : RVle (.d (.int .i64 (IntKind.i64.wrap (n + IntKind.i64.wrap (4 + if (4096 : Int) < (Nat.cast (R := Int) t.length) then 4096 else (Nat.cast (R := Int) t.length)))))) (.d (.int .i64 n2)) := .of_eq (by
  have hm := m4_b t
  show RV.d (.int .i64 (IntKind.i64.wrap (n + IntKind.i64.wrap (4 + m4 t)))) = _
  rw [i64_in (4 + m4 t) (by omega), i64_in _ (by omega), h])
theorem ov_m8 {n n2 : Int} {t : Bs} (h : n + (1 + m8 t) = n2) (hn : 0 ≤ n ∧ n ≤ 10000000) : RVle (.d (.int .i64 (IntKind.i64.wrap (n + IntKind.i64.wrap (1 + if (8192 : Int) < (Nat.cast (R := Int) t.length) then 8192 else (Nat.cast (R := Int) t.length)))))) (.d (.int .i64 n2)) := .of_eq (by
  have hm := m8_b t
  show RV.d (.int .i64 (IntKind.i64.wrap (n + IntKind.i64.wrap (1 + m8 t)))) = _
  rw [i64_in (1 + m8 t) (by omega), i64_in _ (by omega), h])
theorem g2_inner (l : List DV) (n : Int) (hn : 0 ≤ n ∧ n ≤ 2000000) (i : Nat) (x : Chg) (j : Nat) (hj : j ≤ 3) (row : List Val) (hr : row.length ≤ 40) (b : Bool)
    (hk : WK Try.prog 0 (stackAt g2C 1) (g2R l (sum8 n row) (i : Int) x ((j + 1 : Nat) : Int)).den (EndsG2 b)) : WK Try.prog 0 (stackAt g2C 2) (g2V l n (i : Int) x (j : Int) (row.map vD) 0).den (EndsG2 b) := by
  have ok := cfT_ok (l := []) .nil
  have hrl : (row.map vD).length = row.length := List.length_map ..
  have key := WK.rec' (P := Try.prog) (m := 0) (k := stackAt g2C 2) (Q := EndsG2 b) (fun (q : Nat) => g2V l (sum8 n (row.take q)) (i : Int) x (j : Int) (row.map vD) (q : Int)) (fun q => q ≤ row.length) (fun q => row.length - q) ?_ 0 (Nat.zero_le _)
  · exact key
  intro q hq ih
  have hb := sum8_b (row.take q) n
  have hbl : (row.take q).length ≤ 40 := by rw [List.length_take]; omega
  by_cases hlt : q < row.length
  · obtain ⟨v, hv⟩ : ∃ v, row[q] = v := ⟨_, rfl⟩
    have hw := ih (q + 1) hlt (by omega)
    have tx : row.take (q + 1) = row.take q ++ [v] := by rw [List.take_add_one, List.getElem?_eq_getElem hlt, hv]; rfl
    rw [tx, sum8_app] at hw
    obtain ⟨m, hm⟩ : ∃ m, sum8 n (row.take q) = m := ⟨_, rfl⟩
    rw [hm] at hb hw ⊢
    obtain ⟨n2, hn2⟩ : ∃ n2, m + (1 + m8 v.s) = n2 := ⟨_, rfl⟩
    have e2 : sum8 m [v] = n2 := hn2
    rw [e2] at hw
    have b1 := bd_map (f := vD) hlt
    have b2 := ov_val hlt hv
    have b3 : decide ((Nat.cast (R := Int) q) < (Nat.cast (R := Int) (row.map vD).length)) = true := decide_eq_true (by omega)
    have b4 := ov_m8 hn2 (by omega)
    obtain ⟨rwl, hrw⟩ : ∃ r, row.map vD = r := ⟨_, rfl⟩
    rw [hrw] at hw b1 b2 b3 ⊢
    clear ih hk
    refine WK.segA ok 1000 0 [(39, RV.d (DV.bool true)), (40, RV.iptr (DV.agg [DV.int Go.IntKind.u8 v.1, DV.int Go.IntKind.i64 v.2, DV.str v.3]) 0), (48, RV.d (DV.int Go.IntKind.i64 n2)), (49, RV.d (DV.int Go.IntKind.i64 (Nat.cast (R := Int) (q + 1))))] [] [0, 3, 10, 11, 12, 29, 30, 36, 37, 38] [decide (0 ≤ (Nat.cast (R := Int) q) ∧ (Nat.cast (R := Int) q) < (Nat.cast (R := Int) rwl.length))] [(RV.d (DV.bool (decide ((Nat.cast (R := Int) q) < (Nat.cast (R := Int) rwl.length)))), RV.d (DV.bool true)), (RV.iptr (rwl.getD (Nat.cast (R := Int) q).toNat DV.nilp) 0, RV.iptr (DV.agg [DV.int Go.IntKind.u8 v.1, DV.int Go.IntKind.i64 v.2, DV.str v.3]) 0), (RV.d (DV.int Go.IntKind.i64 (Go.IntKind.i64.wrap (m + Go.IntKind.i64.wrap (1 + if 8192 < (Nat.cast (R := Int) (List.length v.s)) then 8192 else (Nat.cast (R := Int) (List.length v.3)))))), RV.d (DV.int Go.IntKind.i64 n2)), (RV.d (DV.int Go.IntKind.i64 (Go.IntKind.i64.wrap ((Nat.cast (R := Int) q) + 1))), RV.d (DV.int Go.IntKind.i64 (Nat.cast (R := Int) (q + 1))))] rfl (by kernel_rfl : runSegA (cfT []) 1000 0 _ _ _ _ (g2V l m (i : Int) x (j : Int) rwl (q : Int)) = some (stackAt g2C 2, g2V l n2 (i : Int) x (j : Int) rwl ((q + 1 : Nat) : Int), _, _)) ⟨(by exact b1), trivial⟩ (by refine ⟨?_, ?_, ?_, ?_, trivial⟩ <;> (first | exact le_bool b3 | exact b2 | exact b4 | exact ov_succ (by omega))) ?_
    exact hw
  · have e : row.take q = row := List.take_of_length_le (by omega)
    rw [e]
    obtain ⟨m, hm⟩ : ∃ m, sum8 n row = m := ⟨_, rfl⟩
    rw [hm] at hk ⊢
    have hf : decide ((Nat.cast (R := Int) q) < (Nat.cast (R := Int) (row.map vD).length)) = false := decide_eq_false (by omega)
    obtain ⟨rwl, hrw⟩ : ∃ r, row.map vD = r := ⟨_, rfl⟩
    rw [hrw] at hf ⊢
    clear ih
    refine WK.segA ok 1000 0 [(39, RV.d (DV.bool false)), (50, RV.d (DV.int Go.IntKind.i64 (Nat.cast (R := Int) (j + 1))))] [] [0, 3, 10, 11, 12, 29, 30] [] [(RV.d (DV.bool (decide ((Nat.cast (R := Int) q) < (Nat.cast (R := Int) rwl.length)))), RV.d (DV.bool false)), (RV.d (DV.int Go.IntKind.i64 (Go.IntKind.i64.wrap ((Nat.cast (R := Int) j) + 1))), RV.d (DV.int Go.IntKind.i64 (Nat.cast (R := Int) (j + 1))))] rfl (by kernel_rfl : runSegA (cfT []) 1000 0 _ _ _ _ (g2V l m (i : Int) x (j : Int) rwl (q : Int)) = some (stackAt g2C 1, g2R l m (i : Int) x ((j + 1 : Nat) : Int), _, _)) trivial (by refine ⟨?_, ?_, trivial⟩ <;> (first | exact le_bool hf | exact ov_succ (by omega))) ?_
    exact hk
theorem gt40 (r : List Val) (b : Bool) (h : decide (40 < r.length) = b) : decide ((40 : Int) < (Nat.cast (R := Int) (r.map vD).length)) = b := by
  rw [← h, List.length_map]
  apply Bool.eq_iff_iff.2; simp only [decide_eq_true_eq]; omega
theorem g2_c (L : List Chg) (hl : L.length ≤ 9223372036854775807) : C Try.prog 23 [.d (chL L)] [] (fun r o => r = .d (.bool (great2 L)) ∧ o = []) := by
  have ok := cfT_ok (l := []) .nil
  refine C_of_run (fn := Try.f23) (body := g2C) true (by kernel_rfl) (by kernel_rfl) (by kernel_rfl) ?_
  have hloop : WK Try.prog 0 (stackAt g2C 0) (g2S (L.map chD) 0 0).den (EndsG2 (great2 L)) := by
    refine WK.rec' (fun (q : Int × Nat) => g2S (L.map chD) q.1 (q.2 : Int)) (fun q => q.2 ≤ L.length ∧ (4 * (q.2 : Int) ≤ q.1 ∧ q.1 ≤ 32768) ∧ (gr2Go q.1 (L.drop q.2) || decide (1200 < L.length)) = great2 L) (fun q => L.length - q.2) ?_ (0, 0) ⟨Nat.zero_le _, ⟨by decide, by decide⟩, rfl⟩
    rintro ⟨n, i⟩ ⟨hi, hn, hg⟩ ih
    simp only at hi hn hg ih ⊢
    by_cases hlt : i < L.length
    · obtain ⟨x, hx⟩ : ∃ x, L[i] = x := ⟨_, rfl⟩
      rw [List.drop_eq_getElem_cons hlt, hx] at hg
      simp only [gr2Go] at hg
      obtain ⟨n0, hn0⟩ : ∃ n0, n + (4 + m4 x.t) = n0 := ⟨_, rfl⟩
      rw [hn0] at hg
      have hm4 := m4_b x.t
      have b1 := bd_map (f := chD) hlt
      have b2 := ov_chg hlt hx
      have b3 : decide ((Nat.cast (R := Int) i) < (Nat.cast (R := Int) (L.map chD).length)) = true := decide_eq_true (by rw [List.length_map]; omega)
      have b4 := ov_m4 hn0 (by omega)
      have hbody : WK Try.prog 0 (stackAt g2C 1) (g2R (L.map chD) n0 (i : Int) x 0).den (EndsG2 (great2 L)) := by
        obtain ⟨l, hl'⟩ : ∃ l, L.map chD = l := ⟨_, rfl⟩
        rw [hl'] at ih ⊢
        cases c1 : decide (40 < x.k.length) with
        | true =>
          have hG : great2 L = true := by rw [← hg, c1]; rfl
          rw [hG]
          have d1 := gt40 _ _ c1
          clear ih
          exact WK.fin ok 1000 0 [(35, RV.d (DV.bool true))] [true] [(RV.d (DV.bool (decide (40 < (Nat.cast (R := Int) (List.map vD x.k).length)))), RV.d (DV.bool true))] rfl (by kernel_rfl : runEnd (cfT []) true _ 1000 0 _ _ (g2R l n0 (i : Int) x 0) = some (RV.d (DV.bool true), [], _, _)) ⟨(by rfl), trivial⟩ ⟨(by exact le_bool d1), trivial⟩ ⟨rfl, rfl⟩
        | false =>
        have k1 := of_decide_eq_false c1
        have s1 := sum8_b x.k n0
        obtain ⟨n1, hn1⟩ : ∃ n1, sum8 n0 x.k = n1 := ⟨_, rfl⟩
        rw [hn1] at hg s1
        have r1 : WK Try.prog 0 (stackAt g2C 1) (g2R l n1 (i : Int) x 1).den (EndsG2 (great2 L)) := by
          cases c2 : decide (40 < x.o.length) with
          | true =>
            have hG : great2 L = true := by rw [← hg, c2]; simp
            rw [hG]
            have d1 := gt40 _ _ c2
            clear ih
            exact WK.fin ok 1000 0 [(35, RV.d (DV.bool true))] [true] [(RV.d (DV.bool (decide (40 < (Nat.cast (R := Int) (List.map vD x.o).length)))), RV.d (DV.bool true))] rfl (by kernel_rfl : runEnd (cfT []) true _ 1000 0 _ _ (g2R l n1 (i : Int) x 1) = some (RV.d (DV.bool true), [], _, _)) ⟨(by rfl), trivial⟩ ⟨(by exact le_bool d1), trivial⟩ ⟨rfl, rfl⟩
          | false =>
          have k2 := of_decide_eq_false c2
          have s2 := sum8_b x.o n1
          obtain ⟨n2, hn2⟩ : ∃ n2, sum8 n1 x.o = n2 := ⟨_, rfl⟩
          rw [hn2] at hg s2
          have r2 : WK Try.prog 0 (stackAt g2C 1) (g2R l n2 (i : Int) x 2).den (EndsG2 (great2 L)) := by
            cases c3 : decide (40 < x.n.length) with
            | true =>
              have hG : great2 L = true := by rw [← hg, c3]; simp
              rw [hG]
              have d1 := gt40 _ _ c3
              clear ih
              exact WK.fin ok 1000 0 [(35, RV.d (DV.bool true))] [true] [(RV.d (DV.bool (decide (40 < (Nat.cast (R := Int) (List.map vD x.n).length)))), RV.d (DV.bool true))] rfl (by kernel_rfl : runEnd (cfT []) true _ 1000 0 _ _ (g2R l n2 (i : Int) x 2) = some (RV.d (DV.bool true), [], _, _)) ⟨(by rfl), trivial⟩ ⟨(by exact le_bool d1), trivial⟩ ⟨rfl, rfl⟩
            | false =>
            have k3 := of_decide_eq_false c3
            have s3 := sum8_b x.n n2
            obtain ⟨n3, hn3⟩ : ∃ n3, sum8 n2 x.n = n3 := ⟨_, rfl⟩
            rw [hn3] at hg s3
            have r3 : WK Try.prog 0 (stackAt g2C 1) (g2R l n3 (i : Int) x 3).den (EndsG2 (great2 L)) := by
              cases c4 : decide ((32768 : Int) < n3) with
              | true =>
                have hG : great2 L = true := by rw [← hg, c4]; simp
                rw [hG]
                clear ih
                exact WK.fin ok 1000 0 [(52, RV.d (DV.bool true))] [] [(RV.d (DV.bool (decide (32768 < n3))), RV.d (DV.bool true))] rfl (by kernel_rfl : runEnd (cfT []) true _ 1000 0 _ _ (g2R l n3 (i : Int) x 3) = some (RV.d (DV.bool true), [], _, _)) trivial ⟨(by exact le_bool c4), trivial⟩ ⟨rfl, rfl⟩
              | false =>
                have k4 := of_decide_eq_false c4
                rw [c1, c2, c3, c4] at hg
                have hw := ih (n3, i + 1) ⟨hlt, ⟨by simp only; omega, by simp only; omega⟩, by simpa using hg⟩ (by simp only; omega)
                simp only at hw
                clear ih
                refine WK.segA ok 1000 0 [(52, RV.d (DV.bool false)), (53, RV.d (DV.int Go.IntKind.i64 (Nat.cast (R := Int) (i + 1))))] [] [0, 3, 10, 11, 12] [] [(RV.d (DV.bool (decide (32768 < n3))), RV.d (DV.bool false)), (RV.d (DV.int Go.IntKind.i64 (Go.IntKind.i64.wrap ((Nat.cast (R := Int) i) + 1))), RV.d (DV.int Go.IntKind.i64 (Nat.cast (R := Int) (i + 1))))] rfl (by kernel_rfl : runSegA (cfT []) 1000 0 _ _ _ _ (g2R l n3 (i : Int) x 3) = some (stackAt g2C 0, g2S l n3 ((i + 1 : Nat) : Int), _, _)) trivial (by refine ⟨?_, ?_, trivial⟩ <;> (first | exact le_bool c4 | exact ov_succ (by omega))) ?_
                exact hw
            have hin := g2_inner l n2 (by omega) i x 2 (by omega) x.n (by omega) (great2 L) (by rw [hn3]; exact r3)
            have d1 := gt40 _ _ c3
            clear ih
            refine WK.segA ok 1000 0 [(35, RV.d (DV.bool false))] [] [0, 3, 10, 11, 12, 29, 30, 36, 37, 38] [true] [(RV.d (DV.bool (decide (40 < (Nat.cast (R := Int) (List.map vD x.n).length)))), RV.d (DV.bool false))] rfl (by kernel_rfl : runSegA (cfT []) 1000 0 _ _ _ _ (g2R l n2 (i : Int) x 2) = some (stackAt g2C 2, g2V l n2 (i : Int) x 2 (x.n.map vD) 0, _, _)) ⟨(by rfl), trivial⟩ ⟨(by exact le_bool d1), trivial⟩ ?_
            exact hin
          have hin := g2_inner l n1 (by omega) i x 1 (by omega) x.o (by omega) (great2 L) (by rw [hn2]; exact r2)
          have d1 := gt40 _ _ c2
          clear ih
          refine WK.segA ok 1000 0 [(35, RV.d (DV.bool false))] [] [0, 3, 10, 11, 12, 29, 30, 36, 37, 38] [true] [(RV.d (DV.bool (decide (40 < (Nat.cast (R := Int) (List.map vD x.o).length)))), RV.d (DV.bool false))] rfl (by kernel_rfl : runSegA (cfT []) 1000 0 _ _ _ _ (g2R l n1 (i : Int) x 1) = some (stackAt g2C 2, g2V l n1 (i : Int) x 1 (x.o.map vD) 0, _, _)) ⟨(by rfl), trivial⟩ ⟨(by exact le_bool d1), trivial⟩ ?_
          exact hin
        have hin := g2_inner l n0 (by omega) i x 0 (by omega) x.k (by omega) (great2 L) (by rw [hn1]; exact r1)
        have d1 := gt40 _ _ c1
        clear ih
        refine WK.segA ok 1000 0 [(35, RV.d (DV.bool false))] [] [0, 3, 10, 11, 12, 29, 30, 36, 37, 38] [true] [(RV.d (DV.bool (decide (40 < (Nat.cast (R := Int) (List.map vD x.k).length)))), RV.d (DV.bool false))] rfl (by kernel_rfl : runSegA (cfT []) 1000 0 _ _ _ _ (g2R l n0 (i : Int) x 0) = some (stackAt g2C 2, g2V l n0 (i : Int) x 0 (x.k.map vD) 0, _, _)) ⟨(by rfl), trivial⟩ ⟨(by exact le_bool d1), trivial⟩ ?_
        exact hin
      obtain ⟨l, hl'⟩ : ∃ l, L.map chD = l := ⟨_, rfl⟩
      rw [hl'] at hbody b1 b2 b3 ⊢
      clear ih
      refine WK.segA ok 1000 0 [(13, RV.d (DV.bool true)), (14, RV.iptr (DV.agg [DV.str x.1, DV.lst 3 (List.map vD x.2) false, DV.lst 3 (List.map vD x.3) false, DV.lst 3 (List.map vD x.4) false]) 0), (22, RV.d (DV.int Go.IntKind.i64 n0))] [] [0, 3, 10, 11, 12, 29, 30] [decide (0 ≤ (Nat.cast (R := Int) i) ∧ (Nat.cast (R := Int) i) < (Nat.cast (R := Int) l.length))] [(RV.d (DV.bool (decide ((Nat.cast (R := Int) i) < (Nat.cast (R := Int) l.length)))), RV.d (DV.bool true)), (RV.iptr (l.getD (Nat.cast (R := Int) i).toNat DV.nilp) 0, RV.iptr (DV.agg [DV.str x.1, DV.lst 3 (List.map vD x.2) false, DV.lst 3 (List.map vD x.3) false, DV.lst 3 (List.map vD x.4) false]) 0), (RV.d (DV.int Go.IntKind.i64 (Go.IntKind.i64.wrap (n + Go.IntKind.i64.wrap (4 + if 4096 < (Nat.cast (R := Int) (List.length x.t)) then 4096 else (Nat.cast (R := Int) (List.length x.1)))))), RV.d (DV.int Go.IntKind.i64 n0))] rfl (by kernel_rfl : runSegA (cfT []) 1000 0 _ _ _ _ (g2S l n (i : Int)) = some (stackAt g2C 1, g2R l n0 (i : Int) x 0, _, _)) ⟨(by exact b1), trivial⟩ (by refine ⟨?_, ?_, ?_, trivial⟩ <;> (first | exact le_bool b3 | exact b2 | exact b4)) ?_
      exact hbody
    · have hf : decide ((Nat.cast (R := Int) i) < (Nat.cast (R := Int) (L.map chD).length)) = false := decide_eq_false (by rw [List.length_map]; omega)
      have hG : decide ((1200 : Int) < (Nat.cast (R := Int) (L.map chD).length)) = great2 L := by
        rw [← hg, List.drop_eq_nil_of_le (by omega), List.length_map]
        simp only [gr2Go, Bool.false_or]
        apply Bool.eq_iff_iff.2; simp only [decide_eq_true_eq]; omega
      show WK Try.prog 0 _ _ (Ends _ (.d (.bool (great2 L))))
      rw [← hG]
      obtain ⟨l, hl'⟩ : ∃ l, L.map chD = l := ⟨_, rfl⟩
      rw [hl'] at hf ⊢
      clear ih
      exact WK.fin ok 1000 0 [(13, RV.d (DV.bool false))] [] [(RV.d (DV.bool (decide ((Nat.cast (R := Int) i) < (Nat.cast (R := Int) l.length)))), RV.d (DV.bool false))] rfl (by kernel_rfl : runEnd (cfT []) true _ 1000 0 _ _ (g2S l n (i : Int)) = some (RV.d (DV.bool (decide (1200 < (Nat.cast (R := Int) l.length)))), [], _, _)) trivial ⟨(by exact le_bool hf), trivial⟩ ⟨rfl, rfl⟩
  obtain ⟨l, hl'⟩ : ∃ l, L.map chD = l := ⟨_, rfl⟩
  show WK Try.prog 0 _ (ini 57 [.d (.lst 4 (L.map chD) false)] []).den _
  rw [hl'] at hloop ⊢
  refine WK.segA ok 1000 0 [] [] [0, 3, 10, 11, 12] [] [] rfl (by kernel_rfl : runSegA (cfT []) 1000 0 _ _ _ _ (ini 57 [.d (.lst 4 l false)] []) = some (stackAt g2C 0, g2S l 0 0, _, _)) trivial trivial ?_
  exact hloop
def grG2 (x : DV) : Option (DV × List Bool) := some (.bool (great2 (unL x)), [isLw x])
theorem g2_ent : EntOk Try.prog 23 (e1 grG2) := by
  refine e1_ok fun x y c hg hc => ?_
  simp only [grG2, Option.some.injEq, Prod.mk.injEq] at hg
  obtain ⟨rfl, rfl⟩ := hg
  obtain ⟨l, rfl, hl, hw⟩ := isLw_spec (hc (isLw x) (by simp))
  rw [unL_chL]
  exact g2_c l hl
end Go.Proofs.Ytljfolepmkcjlaa
