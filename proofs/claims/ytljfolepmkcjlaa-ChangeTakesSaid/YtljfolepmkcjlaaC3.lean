/-
  The reference's orders and rows: numbers, texts, Compare, Rows, Order, row.
-/
import Derived.Test.YtljfolepmkcjlaaC2
namespace Go.Proofs.Ytljfolepmkcjlaa
open Go.RowKit Plain Am IntWalk
set_option maxRecDepth 100000
set_option linter.unusedVariables false
set_option linter.unusedSimpArgs false

theorem nu_c (a b : Int) : C Try.prog 97 [.d (.int .i64 a), .d (.int .i64 b)] [] (fun r o => r = .d (.int .i64 (cmpI a b)) ∧ o = []) := by
  have ok := cfT_ok (l := []) .nil
  refine C_of_run (fn := Try.f97) (body := nuC) true (by kernel_rfl) (by kernel_rfl) (by kernel_rfl) ?_
  rcases Bool.eq_false_or_eq_true (decide (a < b) : Bool) with h7 | h7
  · skip
    exact WK.fin ok 1000 0 [(7, RV.d (DV.bool true))] [] [(RV.d (DV.bool (decide (a < b))), RV.d (DV.bool true))] rfl (by kernel_rfl : runEnd (cfT []) true _ 1000 0 _ _ (ini 11 [.d (.int .i64 a), .d (.int .i64 b)] []) = some (RV.d (DV.int Go.IntKind.i64 (-1)), [], _, _)) trivial ⟨le_bool h7, trivial⟩ ⟨by unfold cmpI; first | rw [if_pos (of_decide_eq_true h7)] | rw [if_neg (of_decide_eq_false h7), if_pos (of_decide_eq_true h10)] | rw [if_neg (of_decide_eq_false h7), if_neg (of_decide_eq_false h10)], rfl⟩
  · skip
    rcases Bool.eq_false_or_eq_true (decide (b < a) : Bool) with h10 | h10
    · skip
      exact WK.fin ok 1000 0 [(7, RV.d (DV.bool false)), (10, RV.d (DV.bool true))] [] [(RV.d (DV.bool (decide (a < b))), RV.d (DV.bool false)), (RV.d (DV.bool (decide (b < a))), RV.d (DV.bool true))] rfl (by kernel_rfl : runEnd (cfT []) true _ 1000 0 _ _ (ini 11 [.d (.int .i64 a), .d (.int .i64 b)] []) = some (RV.d (DV.int Go.IntKind.i64 (1)), [], _, _)) trivial ⟨le_bool h7, le_bool h10, trivial⟩ ⟨by unfold cmpI; first | rw [if_pos (of_decide_eq_true h7)] | rw [if_neg (of_decide_eq_false h7), if_pos (of_decide_eq_true h10)] | rw [if_neg (of_decide_eq_false h7), if_neg (of_decide_eq_false h10)], rfl⟩
    · skip
      exact WK.fin ok 1000 0 [(7, RV.d (DV.bool false)), (10, RV.d (DV.bool false))] [] [(RV.d (DV.bool (decide (a < b))), RV.d (DV.bool false)), (RV.d (DV.bool (decide (b < a))), RV.d (DV.bool false))] rfl (by kernel_rfl : runEnd (cfT []) true _ 1000 0 _ _ (ini 11 [.d (.int .i64 a), .d (.int .i64 b)] []) = some (RV.d (DV.int Go.IntKind.i64 (0)), [], _, _)) trivial ⟨le_bool h7, le_bool h10, trivial⟩ ⟨by unfold cmpI; first | rw [if_pos (of_decide_eq_true h7)] | rw [if_neg (of_decide_eq_false h7), if_pos (of_decide_eq_true h10)] | rw [if_neg (of_decide_eq_false h7), if_neg (of_decide_eq_false h10)], rfl⟩
theorem nu_ent : EntOk Try.prog 97 (e2 nuG) := by
  refine e2_ok fun x x2 y c hg hc => ?_
  unfold nuG at hg
  split at hg
  · simp only [Option.some.injEq, Prod.mk.injEq] at hg
    obtain ⟨rfl, rfl⟩ := hg
    exact nu_c _ _
  · cases hg
noncomputable def t5 : List (Nat × Ent) := [(97, e2 nuG)]
theorem t5_ok : EntsOk Try.prog t5 := .cons nu_ent .nil

theorem at_u8 (l : Bs) (i : Nat) : ∃ c, ∀ h : i < l.length, l[i] = c := by
  by_cases h : i < l.length
  · exact ⟨l[i], fun _ => rfl⟩
  · exact ⟨0, fun h' => absurd h' h⟩
theorem cmpS_drop {s t : Bs} {i : Nat} (hs : i < s.length) (ht : i < t.length) : cmpS (s.drop i) (t.drop i) = if s[i].toNat ≠ t[i].toNat then cmpI s[i].toNat t[i].toNat else cmpS (s.drop (i + 1)) (t.drop (i + 1)) := by
  rw [List.drop_eq_getElem_cons hs, List.drop_eq_getElem_cons ht]
  simp only [cmpS, Go.Lib.compareBytes, UInt8.lt_iff_toNat_lt, cmpI]
  by_cases h1 : s[i].toNat < t[i].toNat
  · rw [if_pos h1, if_pos (by omega), if_pos (by omega)]
  · by_cases h2 : t[i].toNat < s[i].toNat
    · rw [if_neg h1, if_pos h2, if_pos (by omega), if_neg (by omega), if_pos (by omega)]
    · rw [if_neg h1, if_neg h2, if_neg (by omega)]
theorem cmpS_end {a b : Bs} {i : Nat} (h : a.length ≤ i ∨ b.length ≤ i) (ha : i ≤ a.length) (hb : i ≤ b.length) : cmpS (a.drop i) (b.drop i) = cmpI a.length b.length := by
  unfold cmpI
  rcases h with h | h
  · rw [List.drop_eq_nil_of_le h]
    by_cases h2 : b.length ≤ i
    · rw [List.drop_eq_nil_of_le h2, if_neg (by omega), if_neg (by omega)]; rfl
    · rw [List.drop_eq_getElem_cons (by omega), if_pos (by omega)]; rfl
  · rw [List.drop_eq_nil_of_le h]
    by_cases h2 : a.length ≤ i
    · rw [List.drop_eq_nil_of_le h2, if_neg (by omega), if_neg (by omega)]; rfl
    · rw [List.drop_eq_getElem_cons (by omega), if_neg (by omega), if_pos (by omega)]; rfl
theorem ov_u8 {s : Bs} {i : Nat} {c : UInt8} (h : i < s.length) (hc : s[i] = c) : RVle (.d (.int .u8 (Nat.cast (R := Int) (List.getD s (Nat.cast (R := Int) i).toNat 0).toNat))) (.d (.int .u8 (Nat.cast (R := Int) c.toNat))) := .of_eq (by
  rw [Int.toNat_natCast, List.getD_eq_getElem?_getD, List.getElem?_eq_getElem h, Option.getD_some, hc])
theorem ov_w8 (c : UInt8) : RVle (.d (.int .i64 (IntKind.i64.wrap (Nat.cast (R := Int) c.toNat)))) (.d (.int .i64 (Nat.cast (R := Int) c.toNat))) := .of_eq (by
  have := c.toNat_lt
  rw [i64_in _ (by omega)])
theorem tx_c (s t : Bs) (hs : s.length ≤ 1000000) (ht : t.length ≤ 1000000) : C Try.prog 98 [.d (.str s), .d (.str t)] [] (fun r o => r = .d (.int .i64 (cmpS s t)) ∧ o = []) := by
  have ok := cfT_ok t5_ok
  refine C_of_run (fn := Try.f98) (body := txC) true (by kernel_rfl) (by kernel_rfl) (by kernel_rfl) ?_
  have hloop : WK Try.prog 0 (stackAt txC 0) (txS s t 0).den (Ends (Try.f98.results.toList) (.d (.int .i64 (cmpS s t)))) := by
    refine WK.rec' (fun i => txS s t i) (fun i => (i ≤ s.length ∧ i ≤ t.length) ∧ cmpS (s.drop i) (t.drop i) = cmpS s t) (fun i => s.length - i) ?_ 0 ⟨⟨Nat.zero_le _, Nat.zero_le _⟩, rfl⟩
    rintro i ⟨⟨hi, hi2⟩, hc⟩ ih
    obtain ⟨c, hcv⟩ := at_u8 s i
    obtain ⟨d, hdv⟩ := at_u8 t i
    by_cases h9 : i < s.length
    · have hlt : decide ((Nat.cast (R := Int) i) < (Nat.cast (R := Int) (List.length t))) = true → i < t.length := fun h => by have := of_decide_eq_true h; omega
      have hge : decide ((Nat.cast (R := Int) i) < (Nat.cast (R := Int) (List.length t))) = false → cmpI s.length t.length = cmpS s t := fun h => by
        have := of_decide_eq_false h
        rw [← hc, cmpS_end (.inr (by omega)) hi hi2]
      have hstep : i < t.length → cmpS s t = if c.toNat ≠ d.toNat then cmpI c.toNat d.toNat else cmpS (s.drop (i + 1)) (t.drop (i + 1)) := fun h => by
        rw [← hc, cmpS_drop h9 h, hcv h9, hdv h]
      rcases Bool.eq_false_or_eq_true (decide ((Nat.cast (R := Int) i) < (Nat.cast (R := Int) (List.length t))) : Bool) with h15 | h15
      · skip
        rcases Bool.eq_false_or_eq_true ((c.toNat : Int) != (d.toNat : Int) : Bool) with h24 | h24
        · skip
          exact WK.fin ok 1000 0 [(9, RV.d (DV.bool true)), (20, RV.d (DV.int Go.IntKind.u8 (c.toNat : Int))), (23, RV.d (DV.int Go.IntKind.u8 (d.toNat : Int))), (17, RV.d (DV.int Go.IntKind.i64 (Nat.cast (R := Int) (i + 1)))), (27, RV.d (DV.int Go.IntKind.u8 (c.toNat : Int))), (31, RV.d (DV.int Go.IntKind.u8 (d.toNat : Int))), (28, RV.d (DV.int Go.IntKind.i64 (c.toNat : Int))), (32, RV.d (DV.int Go.IntKind.i64 (d.toNat : Int))), (15, RV.d (DV.bool true)), (24, RV.d (DV.bool true))] [decide (0 ≤ (Nat.cast (R := Int) i) ∧ (Nat.cast (R := Int) i) < (Nat.cast (R := Int) (List.length s))), decide (0 ≤ (Nat.cast (R := Int) i) ∧ (Nat.cast (R := Int) i) < (Nat.cast (R := Int) (List.length t))), decide (0 ≤ (Nat.cast (R := Int) i) ∧ (Nat.cast (R := Int) i) < (Nat.cast (R := Int) (List.length s))), decide (0 ≤ (Nat.cast (R := Int) i) ∧ (Nat.cast (R := Int) i) < (Nat.cast (R := Int) (List.length t)))] [(RV.d (DV.bool (decide ((Nat.cast (R := Int) i) < (Nat.cast (R := Int) (List.length s))))), RV.d (DV.bool true)), (RV.d (DV.bool (decide ((Nat.cast (R := Int) i) < (Nat.cast (R := Int) (List.length t))))), RV.d (DV.bool true)), (RV.d (DV.int Go.IntKind.u8 (Nat.cast (R := Int) (List.getD s (Nat.cast (R := Int) i).toNat (0 : UInt8)).toNat)), RV.d (DV.int Go.IntKind.u8 (c.toNat : Int))), (RV.d (DV.int Go.IntKind.u8 (Nat.cast (R := Int) (List.getD t (Nat.cast (R := Int) i).toNat (0 : UInt8)).toNat)), RV.d (DV.int Go.IntKind.u8 (d.toNat : Int))), (RV.d (DV.bool ((c.toNat : Int) != (d.toNat : Int))), RV.d (DV.bool true)), (RV.d (DV.int Go.IntKind.u8 (Nat.cast (R := Int) (List.getD s (Nat.cast (R := Int) i).toNat (0 : UInt8)).toNat)), RV.d (DV.int Go.IntKind.u8 (c.toNat : Int))), (RV.d (DV.int Go.IntKind.i64 (Go.IntKind.i64.wrap (c.toNat : Int))), RV.d (DV.int Go.IntKind.i64 (c.toNat : Int))), (RV.d (DV.int Go.IntKind.u8 (Nat.cast (R := Int) (List.getD t (Nat.cast (R := Int) i).toNat (0 : UInt8)).toNat)), RV.d (DV.int Go.IntKind.u8 (d.toNat : Int))), (RV.d (DV.int Go.IntKind.i64 (Go.IntKind.i64.wrap (d.toNat : Int))), RV.d (DV.int Go.IntKind.i64 (d.toNat : Int)))] rfl (by kernel_rfl : runEnd (cfT t5) true _ 1000 0 _ _ (txS s t i) = some (RV.d (DV.int Go.IntKind.i64 (Plain.cmpI (c.toNat : Int) (d.toNat : Int))), [], _, _)) (by refine ⟨?_, ?_, ?_, ?_, trivial⟩ <;> (have := of_decide_eq_true h15; exact decide_eq_true (by omega))) (by refine ⟨?_, le_bool h15, ?_, ?_, le_bool h24, ?_, ?_, ?_, ?_, trivial⟩ <;> (first | exact le_bool (decide_eq_true (by omega)) | exact ov_u8 h9 (hcv h9) | exact ov_u8 (hlt h15) (hdv (hlt h15)) | exact ov_w8 _ | exact ov_succ (by omega))) ⟨by first | (rw [hge h15]; done) | (have e0 : (c.toNat : Int) ≠ (d.toNat : Int) := (by simpa using h24); have e : c.toNat ≠ d.toNat := (by omega); rw [hstep (hlt h15), if_pos e]), rfl⟩
        · skip
          refine WK.segA ok 1000 0 [(9, RV.d (DV.bool true)), (20, RV.d (DV.int Go.IntKind.u8 (c.toNat : Int))), (23, RV.d (DV.int Go.IntKind.u8 (d.toNat : Int))), (17, RV.d (DV.int Go.IntKind.i64 (Nat.cast (R := Int) (i + 1)))), (27, RV.d (DV.int Go.IntKind.u8 (c.toNat : Int))), (31, RV.d (DV.int Go.IntKind.u8 (d.toNat : Int))), (28, RV.d (DV.int Go.IntKind.i64 (c.toNat : Int))), (32, RV.d (DV.int Go.IntKind.i64 (d.toNat : Int))), (15, RV.d (DV.bool true)), (24, RV.d (DV.bool false))] [] [0, 1, 5] [decide (0 ≤ (Nat.cast (R := Int) i) ∧ (Nat.cast (R := Int) i) < (Nat.cast (R := Int) (List.length s))), decide (0 ≤ (Nat.cast (R := Int) i) ∧ (Nat.cast (R := Int) i) < (Nat.cast (R := Int) (List.length t)))] [(RV.d (DV.bool (decide ((Nat.cast (R := Int) i) < (Nat.cast (R := Int) (List.length s))))), RV.d (DV.bool true)), (RV.d (DV.bool (decide ((Nat.cast (R := Int) i) < (Nat.cast (R := Int) (List.length t))))), RV.d (DV.bool true)), (RV.d (DV.int Go.IntKind.u8 (Nat.cast (R := Int) (List.getD s (Nat.cast (R := Int) i).toNat (0 : UInt8)).toNat)), RV.d (DV.int Go.IntKind.u8 (c.toNat : Int))), (RV.d (DV.int Go.IntKind.u8 (Nat.cast (R := Int) (List.getD t (Nat.cast (R := Int) i).toNat (0 : UInt8)).toNat)), RV.d (DV.int Go.IntKind.u8 (d.toNat : Int))), (RV.d (DV.bool ((c.toNat : Int) != (d.toNat : Int))), RV.d (DV.bool false)), (RV.d (DV.int Go.IntKind.i64 (Go.IntKind.i64.wrap ((Nat.cast (R := Int) i) + 1))), RV.d (DV.int Go.IntKind.i64 (Nat.cast (R := Int) (i + 1))))] rfl (by kernel_rfl : runSegA (cfT t5) 1000 0 _ _ _ _ (txS s t i) = some (stackAt txC 0, txS s t (i + 1), _, _)) (by refine ⟨?_, ?_, trivial⟩ <;> (have := of_decide_eq_true h15; exact decide_eq_true (by omega))) (by refine ⟨?_, le_bool h15, ?_, ?_, le_bool h24, ?_, trivial⟩ <;> (first | exact le_bool (decide_eq_true (by omega)) | exact ov_u8 h9 (hcv h9) | exact ov_u8 (hlt h15) (hdv (hlt h15)) | exact ov_w8 _ | exact ov_succ (by omega))) ?_
          have e0 : (c.toNat : Int) = (d.toNat : Int) := (by simpa using h24)
          have e : ¬ c.toNat ≠ d.toNat := (by omega)
          exact ih (i + 1) ⟨⟨h9, hlt h15⟩, by rw [hstep (hlt h15), if_neg e]⟩ (by omega)
      · skip
        exact WK.fin ok 1000 0 [(9, RV.d (DV.bool true)), (20, RV.d (DV.int Go.IntKind.u8 (c.toNat : Int))), (23, RV.d (DV.int Go.IntKind.u8 (d.toNat : Int))), (17, RV.d (DV.int Go.IntKind.i64 (Nat.cast (R := Int) (i + 1)))), (27, RV.d (DV.int Go.IntKind.u8 (c.toNat : Int))), (31, RV.d (DV.int Go.IntKind.u8 (d.toNat : Int))), (28, RV.d (DV.int Go.IntKind.i64 (c.toNat : Int))), (32, RV.d (DV.int Go.IntKind.i64 (d.toNat : Int))), (15, RV.d (DV.bool false))] [] [(RV.d (DV.bool (decide ((Nat.cast (R := Int) i) < (Nat.cast (R := Int) (List.length s))))), RV.d (DV.bool true)), (RV.d (DV.bool (decide ((Nat.cast (R := Int) i) < (Nat.cast (R := Int) (List.length t))))), RV.d (DV.bool false))] rfl (by kernel_rfl : runEnd (cfT t5) true _ 1000 0 _ _ (txS s t i) = some (RV.d (DV.int Go.IntKind.i64 (Plain.cmpI (Nat.cast (R := Int) (List.length s)) (Nat.cast (R := Int) (List.length t)))), [], _, _)) trivial ⟨(by first | exact le_bool (decide_eq_true (by omega)) | exact ov_u8 h9 (hcv h9) | exact ov_u8 (hlt h15) (hdv (hlt h15)) | exact ov_w8 _ | exact ov_succ (by omega)), le_bool h15, trivial⟩ ⟨by first | (rw [hge h15]; done) | (have e0 : (c.toNat : Int) ≠ (d.toNat : Int) := (by simpa using h24); have e : c.toNat ≠ d.toNat := (by omega); rw [hstep (hlt h15), if_pos e]), rfl⟩
    · have e := cmpS_end (.inl (by omega)) hi hi2
      rw [hc] at e
      exact WK.fin ok 1000 0 [(9, RV.d (DV.bool false))] [] [(RV.d (DV.bool (decide ((Nat.cast (R := Int) i) < (Nat.cast (R := Int) (List.length s))))), RV.d (DV.bool false))] rfl (by kernel_rfl : runEnd (cfT t5) true _ 1000 0 _ _ (txS s t i) = some (RV.d (DV.int Go.IntKind.i64 (Plain.cmpI (Nat.cast (R := Int) (List.length s)) (Nat.cast (R := Int) (List.length t)))), [], _, _)) trivial ⟨(by exact le_bool (decide_eq_false (by omega))), trivial⟩ ⟨by rw [e], rfl⟩
  refine WK.segA ok 1000 0 [] [] [0, 1, 5] [] [] rfl (by kernel_rfl : runSegA (cfT t5) 1000 0 _ _ _ _ (ini 39 [.d (.str s), .d (.str t)] []) = some (stackAt txC 0, txS s t 0, _, _)) trivial trivial ?_
  exact hloop
theorem tx_ent : EntOk Try.prog 98 (e2 txG) := by
  refine e2_ok fun x x2 y c hg hc => ?_
  unfold txG at hg
  split at hg
  · rename_i s t
    simp only [Option.some.injEq, Prod.mk.injEq] at hg
    obtain ⟨rfl, rfl⟩ := hg
    exact tx_c _ _ (by simpa using hc (decide (s.length ≤ 1000000)) (by simp)) (by simpa using hc (decide (t.length ≤ 1000000)) (by simp))
  · cases hg
noncomputable def t6 : List (Nat × Ent) := (98, e2 txG) :: t5
theorem t6_ok : EntsOk Try.prog t6 := .cons tx_ent t5_ok

theorem rv_c (k n : Int) (s : Bs) (k2 n2 : Int) (s2 : Bs) (w1 : 0 ≤ k ∧ k ≤ 255) (w2 : 0 ≤ k2 ∧ k2 ≤ 255) (hs : s.length ≤ 1000000) (ht : s2.length ≤ 1000000) : C Try.prog 83 [.d (vv k n s), .d (vv k2 n2 s2)] [] (fun r o => r = .d (.int .i64 (cmpV ⟨k, n, s⟩ ⟨k2, n2, s2⟩)) ∧ o = []) := by
  have ok := cfT_ok t6_ok
  refine C_of_run (fn := Try.f83) (body := rvC) true (by kernel_rfl) (by kernel_rfl) (by kernel_rfl) ?_
  rcases Bool.eq_false_or_eq_true (k != k2 : Bool) with h9 | h9
  · skip
    exact WK.fin ok 1000 0 [(12, RV.d (DV.int Go.IntKind.i64 k)), (15, RV.d (DV.int Go.IntKind.i64 k2)), (9, RV.d (DV.bool true))] [] [(RV.d (DV.bool (k != k2)), RV.d (DV.bool true)), (RV.d (DV.int Go.IntKind.i64 (Go.IntKind.i64.wrap k)), RV.d (DV.int Go.IntKind.i64 k)), (RV.d (DV.int Go.IntKind.i64 (Go.IntKind.i64.wrap k2)), RV.d (DV.int Go.IntKind.i64 k2))] rfl (by kernel_rfl : runEnd (cfT t6) true _ 1000 0 _ _ (ini 34 [.d (vv k n s), .d (vv k2 n2 s2)] []) = some (RV.d (DV.int Go.IntKind.i64 (Plain.cmpI k k2)), [], _, _)) trivial (by refine ⟨le_bool h9, ?_, ?_, trivial⟩ <;> ((refine .of_eq ?_; rw [i64_in _ (by omega)]))) ⟨by unfold cmpV; first | (have e : k ≠ k2 := (by simpa using h9); congr 2; simp only; unfold cmpI; by_cases h : k < k2; (rw [if_pos h, if_pos h]); (rw [if_neg h, if_neg h, if_pos (by omega), if_pos (by omega)])) | (have e : k = k2 := (by simpa using h9); subst e; rw [if_neg (by simp), if_neg (by simp)]; simp only; first | (have e1 : k = 1 := (by simpa using h20); rw [if_pos e1]; done) | (have e1 : k ≠ 1 := (by simpa using h20); rw [if_neg e1]; first | (have e2 : k = 2 := (by simpa using h27); rw [if_pos (.inl e2)]; done) | (have e2 : k ≠ 2 := (by simpa using h27); first | (have e3 : k = 3 := (by simpa using h28); rw [if_pos (.inr e3)]; done) | (have e3 : k ≠ 3 := (by simpa using h28); rw [if_neg (by omega)])))), rfl⟩
  · skip
    rcases Bool.eq_false_or_eq_true (k == 1 : Bool) with h20 | h20
    · skip
      exact WK.fin ok 1000 0 [(12, RV.d (DV.int Go.IntKind.i64 k)), (15, RV.d (DV.int Go.IntKind.i64 k2)), (9, RV.d (DV.bool false)), (20, RV.d (DV.bool true))] [] [(RV.d (DV.bool (k != k2)), RV.d (DV.bool false)), (RV.d (DV.bool (k == 1)), RV.d (DV.bool true))] rfl (by kernel_rfl : runEnd (cfT t6) true _ 1000 0 _ _ (ini 34 [.d (vv k n s), .d (vv k2 n2 s2)] []) = some (RV.d (DV.int Go.IntKind.i64 (Plain.cmpI n n2)), [], _, _)) trivial ⟨le_bool h9, le_bool h20, trivial⟩ ⟨by unfold cmpV; first | (have e : k ≠ k2 := (by simpa using h9); congr 2; simp only; unfold cmpI; by_cases h : k < k2; (rw [if_pos h, if_pos h]); (rw [if_neg h, if_neg h, if_pos (by omega), if_pos (by omega)])) | (have e : k = k2 := (by simpa using h9); subst e; rw [if_neg (by simp), if_neg (by simp)]; simp only; first | (have e1 : k = 1 := (by simpa using h20); rw [if_pos e1]; done) | (have e1 : k ≠ 1 := (by simpa using h20); rw [if_neg e1]; first | (have e2 : k = 2 := (by simpa using h27); rw [if_pos (.inl e2)]; done) | (have e2 : k ≠ 2 := (by simpa using h27); first | (have e3 : k = 3 := (by simpa using h28); rw [if_pos (.inr e3)]; done) | (have e3 : k ≠ 3 := (by simpa using h28); rw [if_neg (by omega)])))), rfl⟩
    · skip
      rcases Bool.eq_false_or_eq_true (k == 2 : Bool) with h27 | h27
      · skip
        exact WK.fin ok 1000 0 [(12, RV.d (DV.int Go.IntKind.i64 k)), (15, RV.d (DV.int Go.IntKind.i64 k2)), (9, RV.d (DV.bool false)), (20, RV.d (DV.bool false)), (27, RV.d (DV.bool true))] [decide (List.length s ≤ 1000000), decide (List.length s2 ≤ 1000000)] [(RV.d (DV.bool (k != k2)), RV.d (DV.bool false)), (RV.d (DV.bool (k == 1)), RV.d (DV.bool false)), (RV.d (DV.bool (k == 2)), RV.d (DV.bool true))] rfl (by kernel_rfl : runEnd (cfT t6) true _ 1000 0 _ _ (ini 34 [.d (vv k n s), .d (vv k2 n2 s2)] []) = some (RV.d (DV.int Go.IntKind.i64 (Plain.cmpS s s2)), [], _, _)) (by refine ⟨?_, ?_, trivial⟩ <;> (exact decide_eq_true (by assumption))) ⟨le_bool h9, le_bool h20, le_bool h27, trivial⟩ ⟨by unfold cmpV; first | (have e : k ≠ k2 := (by simpa using h9); congr 2; simp only; unfold cmpI; by_cases h : k < k2; (rw [if_pos h, if_pos h]); (rw [if_neg h, if_neg h, if_pos (by omega), if_pos (by omega)])) | (have e : k = k2 := (by simpa using h9); subst e; rw [if_neg (by simp), if_neg (by simp)]; simp only; first | (have e1 : k = 1 := (by simpa using h20); rw [if_pos e1]; done) | (have e1 : k ≠ 1 := (by simpa using h20); rw [if_neg e1]; first | (have e2 : k = 2 := (by simpa using h27); rw [if_pos (.inl e2)]; done) | (have e2 : k ≠ 2 := (by simpa using h27); first | (have e3 : k = 3 := (by simpa using h28); rw [if_pos (.inr e3)]; done) | (have e3 : k ≠ 3 := (by simpa using h28); rw [if_neg (by omega)])))), rfl⟩
      · skip
        rcases Bool.eq_false_or_eq_true (k == 3 : Bool) with h28 | h28
        · skip
          exact WK.fin ok 1000 0 [(12, RV.d (DV.int Go.IntKind.i64 k)), (15, RV.d (DV.int Go.IntKind.i64 k2)), (9, RV.d (DV.bool false)), (20, RV.d (DV.bool false)), (27, RV.d (DV.bool false)), (28, RV.d (DV.bool true))] [decide (List.length s ≤ 1000000), decide (List.length s2 ≤ 1000000)] [(RV.d (DV.bool (k != k2)), RV.d (DV.bool false)), (RV.d (DV.bool (k == 1)), RV.d (DV.bool false)), (RV.d (DV.bool (k == 2)), RV.d (DV.bool false)), (RV.d (DV.bool (k == 3)), RV.d (DV.bool true))] rfl (by kernel_rfl : runEnd (cfT t6) true _ 1000 0 _ _ (ini 34 [.d (vv k n s), .d (vv k2 n2 s2)] []) = some (RV.d (DV.int Go.IntKind.i64 (Plain.cmpS s s2)), [], _, _)) (by refine ⟨?_, ?_, trivial⟩ <;> (exact decide_eq_true (by assumption))) ⟨le_bool h9, le_bool h20, le_bool h27, le_bool h28, trivial⟩ ⟨by unfold cmpV; first | (have e : k ≠ k2 := (by simpa using h9); congr 2; simp only; unfold cmpI; by_cases h : k < k2; (rw [if_pos h, if_pos h]); (rw [if_neg h, if_neg h, if_pos (by omega), if_pos (by omega)])) | (have e : k = k2 := (by simpa using h9); subst e; rw [if_neg (by simp), if_neg (by simp)]; simp only; first | (have e1 : k = 1 := (by simpa using h20); rw [if_pos e1]; done) | (have e1 : k ≠ 1 := (by simpa using h20); rw [if_neg e1]; first | (have e2 : k = 2 := (by simpa using h27); rw [if_pos (.inl e2)]; done) | (have e2 : k ≠ 2 := (by simpa using h27); first | (have e3 : k = 3 := (by simpa using h28); rw [if_pos (.inr e3)]; done) | (have e3 : k ≠ 3 := (by simpa using h28); rw [if_neg (by omega)])))), rfl⟩
        · skip
          exact WK.fin ok 1000 0 [(12, RV.d (DV.int Go.IntKind.i64 k)), (15, RV.d (DV.int Go.IntKind.i64 k2)), (9, RV.d (DV.bool false)), (20, RV.d (DV.bool false)), (27, RV.d (DV.bool false)), (28, RV.d (DV.bool false))] [] [(RV.d (DV.bool (k != k2)), RV.d (DV.bool false)), (RV.d (DV.bool (k == 1)), RV.d (DV.bool false)), (RV.d (DV.bool (k == 2)), RV.d (DV.bool false)), (RV.d (DV.bool (k == 3)), RV.d (DV.bool false))] rfl (by kernel_rfl : runEnd (cfT t6) true _ 1000 0 _ _ (ini 34 [.d (vv k n s), .d (vv k2 n2 s2)] []) = some (RV.d (DV.int Go.IntKind.i64 (0)), [], _, _)) trivial ⟨le_bool h9, le_bool h20, le_bool h27, le_bool h28, trivial⟩ ⟨by unfold cmpV; first | (have e : k ≠ k2 := (by simpa using h9); congr 2; simp only; unfold cmpI; by_cases h : k < k2; (rw [if_pos h, if_pos h]); (rw [if_neg h, if_neg h, if_pos (by omega), if_pos (by omega)])) | (have e : k = k2 := (by simpa using h9); subst e; rw [if_neg (by simp), if_neg (by simp)]; simp only; first | (have e1 : k = 1 := (by simpa using h20); rw [if_pos e1]; done) | (have e1 : k ≠ 1 := (by simpa using h20); rw [if_neg e1]; first | (have e2 : k = 2 := (by simpa using h27); rw [if_pos (.inl e2)]; done) | (have e2 : k ≠ 2 := (by simpa using h27); first | (have e3 : k = 3 := (by simpa using h28); rw [if_pos (.inr e3)]; done) | (have e3 : k ≠ 3 := (by simpa using h28); rw [if_neg (by omega)])))), rfl⟩
theorem rv_ent : EntOk Try.prog 83 (e2 rvG) := by
  refine e2_ok fun x x2 y c hg hc => ?_
  unfold rvG at hg
  split at hg
  · rename_i k n s k2 n2 s2
    simp only [Option.some.injEq, Prod.mk.injEq] at hg
    obtain ⟨rfl, rfl⟩ := hg
    exact rv_c _ _ _ _ _ _ (by simpa using hc (decide (0 ≤ k ∧ k ≤ 255)) (by simp)) (by simpa using hc (decide (0 ≤ k2 ∧ k2 ≤ 255)) (by simp)) (by simpa using hc (decide (s.length ≤ 1000000)) (by simp)) (by simpa using hc (decide (s2.length ≤ 1000000)) (by simp))
  · cases hg
noncomputable def t7 : List (Nat × Ent) := (83, e2 rvG) :: t6
theorem t7_ok : EntsOk Try.prog t7 := .cons rv_ent t6_ok

theorem sm_at {l : List Val} {i : Nat} {v : Val} (h : i < l.length) (hv : l[i] = v) (hs : smR l = true) : v.s.length ≤ 1000000 := by
  have := List.all_eq_true.1 hs _ (List.getElem_mem h)
  rw [hv] at this
  simpa [smV] using this
theorem wf_at {l : List Val} {i : Nat} {v : Val} (h : i < l.length) (hv : l[i] = v) (hw : ∀ v ∈ l, v.wf) : v.wf := by
  rw [← hv]; exact hw _ (List.getElem_mem h)
theorem rr_c (a b : List Val) (ha : a.length ≤ 65536) (wa : ∀ v ∈ a, v.wf) (wb : ∀ v ∈ b, v.wf) (sa : smR a = true) (sb : smR b = true) : C Try.prog 84 [.d (rD a), .d (rD b)] [] (fun r o => r = .d (.int .i64 (cmpR a b)) ∧ o = []) := by
  have ok := cfT_ok t7_ok
  refine C_of_run (fn := Try.f84) (body := rrC) true (by kernel_rfl) (by kernel_rfl) (by kernel_rfl) ?_
  have hla : (Nat.cast (R := Int) (a.map vD).length) = (Nat.cast (R := Int) a.length) := by rw [List.length_map]
  have hlb : (Nat.cast (R := Int) (b.map vD).length) = (Nat.cast (R := Int) b.length) := by rw [List.length_map]
  have hloop : WK Try.prog 0 (stackAt rrC 0) (rrS (a.map vD) (b.map vD) 0).den (Ends (Try.f84.results.toList) (.d (.int .i64 (cmpR a b)))) := by
    refine WK.rec' (fun i => rrS (a.map vD) (b.map vD) i) (fun i => (i ≤ a.length ∧ i ≤ b.length) ∧ cmpR (a.drop i) (b.drop i) = cmpR a b) (fun i => a.length - i) ?_ 0 ⟨⟨Nat.zero_le _, Nat.zero_le _⟩, rfl⟩
    rintro i ⟨⟨hi, hi2⟩, hc⟩ ih
    obtain ⟨v, hv⟩ := at_ex a i
    obtain ⟨w, hw⟩ := at_ex b i
    by_cases h9 : i < a.length
    · have hwv := wf_at h9 (hv h9) wa
      have hsv := sm_at h9 (hv h9) sa
      have hge : decide ((Nat.cast (R := Int) i) < (Nat.cast (R := Int) (b.map vD).length)) = false → cmpI (a.map vD).length (b.map vD).length = cmpR a b := fun h => by
        rw [← hc, cmpR_end (.inr (ge_map h)) hi hi2, hla, hlb]
      have hstep : i < b.length → (if cmpV v w = 0 then cmpR (a.drop (i + 1)) (b.drop (i + 1)) else cmpV v w) = cmpR a b := fun h => by
        rw [← hc, cmpR_drop h9 h, hv h9, hw h]
      rcases Bool.eq_false_or_eq_true (decide ((Nat.cast (R := Int) i) < (Nat.cast (R := Int) (b.map vD).length)) : Bool) with h16 | h16
      · skip
        rcases Bool.eq_false_or_eq_true (Plain.cmpV v w != 0 : Bool) with h29 | h29
        · skip
          exact WK.fin ok 1000 0 [(10, RV.d (DV.bool true)), (21, RV.iptr (DV.agg [DV.int Go.IntKind.u8 v.1, DV.int Go.IntKind.i64 v.2, DV.str v.3]) 0), (25, RV.iptr (DV.agg [DV.int Go.IntKind.u8 w.1, DV.int Go.IntKind.i64 w.2, DV.str w.3]) 0), (27, RV.d (DV.int Go.IntKind.i64 (Plain.cmpV v w))), (18, RV.d (DV.int Go.IntKind.i64 (Nat.cast (R := Int) (i + 1)))), (16, RV.d (DV.bool true)), (29, RV.d (DV.bool true))] [decide (0 ≤ (Nat.cast (R := Int) i) ∧ (Nat.cast (R := Int) i) < (Nat.cast (R := Int) (a.map vD).length)), decide (0 ≤ (Nat.cast (R := Int) i) ∧ (Nat.cast (R := Int) i) < (Nat.cast (R := Int) (b.map vD).length)), decide (0 ≤ v.k ∧ v.k ≤ 255), decide (0 ≤ w.k ∧ w.k ≤ 255), decide (List.length v.s ≤ 1000000), decide (List.length w.s ≤ 1000000)] [(RV.d (DV.bool (decide ((Nat.cast (R := Int) i) < (Nat.cast (R := Int) (a.map vD).length)))), RV.d (DV.bool true)), (RV.d (DV.bool (decide ((Nat.cast (R := Int) i) < (Nat.cast (R := Int) (b.map vD).length)))), RV.d (DV.bool true)), (RV.iptr ((a.map vD).getD (Nat.cast (R := Int) i).toNat DV.nilp) 0, RV.iptr (DV.agg [DV.int Go.IntKind.u8 v.1, DV.int Go.IntKind.i64 v.2, DV.str v.3]) 0), (RV.iptr ((b.map vD).getD (Nat.cast (R := Int) i).toNat DV.nilp) 0, RV.iptr (DV.agg [DV.int Go.IntKind.u8 w.1, DV.int Go.IntKind.i64 w.2, DV.str w.3]) 0), (RV.d (DV.int Go.IntKind.i64 (Plain.cmpV { k := v.1, n := v.2, s := v.3 } { k := w.1, n := w.2, s := w.3 })), RV.d (DV.int Go.IntKind.i64 (Plain.cmpV v w))), (RV.d (DV.bool (Plain.cmpV v w != 0)), RV.d (DV.bool true))] rfl (by kernel_rfl : runEnd (cfT t7) true _ 1000 0 _ _ (rrS (a.map vD) (b.map vD) i) = some (RV.d (DV.int Go.IntKind.i64 (Plain.cmpV v w)), [], _, _)) (by refine ⟨?_, ?_, ?_, ?_, ?_, ?_, trivial⟩ <;> (have hlt := lt_map h16; have q1 := wf_at hlt (hw hlt) wb; have q2 := sm_at hlt (hw hlt) sb; first | exact bd_map h9 | exact bd_map hlt | exact decide_eq_true ⟨hwv.1, hwv.2.1⟩ | exact decide_eq_true ⟨q1.1, q1.2.1⟩ | exact decide_eq_true hsv | exact decide_eq_true q2)) (by refine ⟨?_, le_bool h16, ?_, ?_, ?_, le_bool h29, trivial⟩ <;> (first | exact le_bool (decide_eq_true (by omega)) | exact ov_val h9 (hv h9) | exact ov_val (lt_map h16) (hw (lt_map h16)) | exact ov_succ (by omega) | exact .of_eq rfl)) ⟨by first | (rw [hge h16]; done) | (have e := hstep (lt_map h16); have e2 : cmpV v w ≠ 0 := (by simpa using h29); rw [if_neg e2] at e; rw [e]), rfl⟩
        · skip
          refine WK.segA ok 1000 0 [(10, RV.d (DV.bool true)), (21, RV.iptr (DV.agg [DV.int Go.IntKind.u8 v.1, DV.int Go.IntKind.i64 v.2, DV.str v.3]) 0), (25, RV.iptr (DV.agg [DV.int Go.IntKind.u8 w.1, DV.int Go.IntKind.i64 w.2, DV.str w.3]) 0), (27, RV.d (DV.int Go.IntKind.i64 (Plain.cmpV v w))), (18, RV.d (DV.int Go.IntKind.i64 (Nat.cast (R := Int) (i + 1)))), (16, RV.d (DV.bool true)), (29, RV.d (DV.bool false))] [] [0, 1, 5] [decide (0 ≤ (Nat.cast (R := Int) i) ∧ (Nat.cast (R := Int) i) < (Nat.cast (R := Int) (a.map vD).length)), decide (0 ≤ (Nat.cast (R := Int) i) ∧ (Nat.cast (R := Int) i) < (Nat.cast (R := Int) (b.map vD).length)), decide (0 ≤ v.k ∧ v.k ≤ 255), decide (0 ≤ w.k ∧ w.k ≤ 255), decide (List.length v.s ≤ 1000000), decide (List.length w.s ≤ 1000000)] [(RV.d (DV.bool (decide ((Nat.cast (R := Int) i) < (Nat.cast (R := Int) (a.map vD).length)))), RV.d (DV.bool true)), (RV.d (DV.bool (decide ((Nat.cast (R := Int) i) < (Nat.cast (R := Int) (b.map vD).length)))), RV.d (DV.bool true)), (RV.iptr ((a.map vD).getD (Nat.cast (R := Int) i).toNat DV.nilp) 0, RV.iptr (DV.agg [DV.int Go.IntKind.u8 v.1, DV.int Go.IntKind.i64 v.2, DV.str v.3]) 0), (RV.iptr ((b.map vD).getD (Nat.cast (R := Int) i).toNat DV.nilp) 0, RV.iptr (DV.agg [DV.int Go.IntKind.u8 w.1, DV.int Go.IntKind.i64 w.2, DV.str w.3]) 0), (RV.d (DV.int Go.IntKind.i64 (Plain.cmpV { k := v.1, n := v.2, s := v.3 } { k := w.1, n := w.2, s := w.3 })), RV.d (DV.int Go.IntKind.i64 (Plain.cmpV v w))), (RV.d (DV.bool (Plain.cmpV v w != 0)), RV.d (DV.bool false)), (RV.d (DV.int Go.IntKind.i64 (Go.IntKind.i64.wrap ((Nat.cast (R := Int) i) + 1))), RV.d (DV.int Go.IntKind.i64 (Nat.cast (R := Int) (i + 1))))] rfl (by kernel_rfl : runSegA (cfT t7) 1000 0 _ _ _ _ (rrS (a.map vD) (b.map vD) i) = some (stackAt rrC 0, rrS (a.map vD) (b.map vD) (i + 1), _, _)) (by refine ⟨?_, ?_, ?_, ?_, ?_, ?_, trivial⟩ <;> (have hlt := lt_map h16; have q1 := wf_at hlt (hw hlt) wb; have q2 := sm_at hlt (hw hlt) sb; first | exact bd_map h9 | exact bd_map hlt | exact decide_eq_true ⟨hwv.1, hwv.2.1⟩ | exact decide_eq_true ⟨q1.1, q1.2.1⟩ | exact decide_eq_true hsv | exact decide_eq_true q2)) (by refine ⟨?_, le_bool h16, ?_, ?_, ?_, le_bool h29, ?_, trivial⟩ <;> (first | exact le_bool (decide_eq_true (by omega)) | exact ov_val h9 (hv h9) | exact ov_val (lt_map h16) (hw (lt_map h16)) | exact ov_succ (by omega) | exact .of_eq rfl)) ?_
          have e := hstep (lt_map h16)
          have e2 : cmpV v w = 0 := (by simpa using h29)
          rw [if_pos e2] at e
          exact ih (i + 1) ⟨⟨h9, lt_map h16⟩, e⟩ (by omega)
      · skip
        exact WK.fin ok 1000 0 [(10, RV.d (DV.bool true)), (21, RV.iptr (DV.agg [DV.int Go.IntKind.u8 v.1, DV.int Go.IntKind.i64 v.2, DV.str v.3]) 0), (25, RV.iptr (DV.agg [DV.int Go.IntKind.u8 w.1, DV.int Go.IntKind.i64 w.2, DV.str w.3]) 0), (27, RV.d (DV.int Go.IntKind.i64 (Plain.cmpV v w))), (18, RV.d (DV.int Go.IntKind.i64 (Nat.cast (R := Int) (i + 1)))), (16, RV.d (DV.bool false))] [] [(RV.d (DV.bool (decide ((Nat.cast (R := Int) i) < (Nat.cast (R := Int) (a.map vD).length)))), RV.d (DV.bool true)), (RV.d (DV.bool (decide ((Nat.cast (R := Int) i) < (Nat.cast (R := Int) (b.map vD).length)))), RV.d (DV.bool false))] rfl (by kernel_rfl : runEnd (cfT t7) true _ 1000 0 _ _ (rrS (a.map vD) (b.map vD) i) = some (RV.d (DV.int Go.IntKind.i64 (Plain.cmpI (Nat.cast (R := Int) (a.map vD).length) (Nat.cast (R := Int) (b.map vD).length))), [], _, _)) trivial ⟨(by first | exact le_bool (decide_eq_true (by omega)) | exact ov_val h9 (hv h9) | exact ov_val (lt_map h16) (hw (lt_map h16)) | exact ov_succ (by omega) | exact .of_eq rfl), le_bool h16, trivial⟩ ⟨by first | (rw [hge h16]; done) | (have e := hstep (lt_map h16); have e2 : cmpV v w ≠ 0 := (by simpa using h29); rw [if_neg e2] at e; rw [e]), rfl⟩
    · have e := cmpR_end (.inl (by omega)) hi hi2
      rw [hc, ← hla, ← hlb] at e
      exact WK.fin ok 1000 0 [(10, RV.d (DV.bool false))] [] [(RV.d (DV.bool (decide ((Nat.cast (R := Int) i) < (Nat.cast (R := Int) (a.map vD).length)))), RV.d (DV.bool false))] rfl (by kernel_rfl : runEnd (cfT t7) true _ 1000 0 _ _ (rrS (a.map vD) (b.map vD) i) = some (RV.d (DV.int Go.IntKind.i64 (Plain.cmpI (Nat.cast (R := Int) (a.map vD).length) (Nat.cast (R := Int) (b.map vD).length))), [], _, _)) trivial ⟨(by exact le_bool (decide_eq_false (by omega))), trivial⟩ ⟨by rw [e], rfl⟩
  refine WK.segA ok 1000 0 [] [] [0, 1, 5] [] [] rfl (by kernel_rfl : runSegA (cfT t7) 1000 0 _ _ _ _ (ini 36 [.d (rD a), .d (rD b)] []) = some (stackAt rrC 0, rrS (a.map vD) (b.map vD) 0, _, _)) trivial trivial ?_
  exact hloop
theorem rr_ent : EntOk Try.prog 84 (e2 rrG) := by
  refine e2_ok fun x x2 y c hg hc => ?_
  simp only [rrG, Option.some.injEq, Prod.mk.injEq] at hg
  obtain ⟨rfl, rfl⟩ := hg
  have s1 := hc (smR (unR x)) (by simp)
  have s2 := hc (smR (unR x2)) (by simp)
  obtain ⟨a, rfl, wa, la⟩ := isR_spec (hc (isR x) (by simp))
  obtain ⟨b, rfl, wb, lb⟩ := isR_spec (hc (isR x2) (by simp))
  rw [unR_rD] at s1 s2
  rw [unR_rD, unR_rD]
  exact rr_c a b la wa wb s1 s2
noncomputable def t8 : List (Nat × Ent) := (84, e2 rrG) :: t7
theorem t8_ok : EntsOk Try.prog t8 := .cons rr_ent t7_ok
theorem rc_c (a b : Chg) (ha : Chg.ok a) (hb : Chg.ok b) (sa : smC a = true) (sb : smC b = true) : C Try.prog 70 [.d (chD a), .d (chD b)] [] (fun r o => r = .d (.int .i64 (cmpC a b)) ∧ o = []) := by
  have ok := cfT_ok t8_ok
  simp only [smC, Bool.and_eq_true] at sa sb
  refine C_of_run (fn := Try.f70) (body := rcC) true (by kernel_rfl) (by kernel_rfl) (by kernel_rfl) ?_
  rcases Bool.eq_false_or_eq_true (Plain.cmpS a.1 b.1 != 0 : Bool) with h14 | h14
  · skip
    exact WK.fin ok 1000 0 [(12, RV.d (DV.int Go.IntKind.i64 (Plain.cmpS a.1 b.1))), (20, RV.d (DV.int Go.IntKind.i64 (Plain.cmpR a.2 b.2))), (14, RV.d (DV.bool true))] [true, true, decide (List.length a.t ≤ 1000000), decide (List.length b.t ≤ 1000000)] [(RV.d (DV.int Go.IntKind.i64 (Plain.cmpV { k := 2, n := 0, s := a.1 } { k := 2, n := 0, s := b.1 })), RV.d (DV.int Go.IntKind.i64 (Plain.cmpS a.1 b.1))), (RV.d (DV.bool (Plain.cmpS a.1 b.1 != 0)), RV.d (DV.bool true))] rfl (by kernel_rfl : runEnd (cfT t8) true _ 1000 0 _ _ (ini 21 [.d (chD a), .d (chD b)] []) = some (RV.d (DV.int Go.IntKind.i64 (Plain.cmpS a.1 b.1)), [], _, _)) (by refine ⟨?_, ?_, ?_, ?_, trivial⟩ <;> (first | rfl | exact sa.1 | exact sb.1 | exact ok_k ha | exact ok_k hb | (rw [unR_rD]; first | exact sa.2 | exact sb.2))) ⟨(by first | exact ov_R a.k b.k | exact .of_eq (by simp [cmpV])), le_bool h14, trivial⟩ ⟨by unfold cmpC; first | rw [if_neg (by simpa using h14)] | rw [if_pos (by simpa using h14)], rfl⟩
  · skip
    exact WK.fin ok 1000 0 [(12, RV.d (DV.int Go.IntKind.i64 (Plain.cmpS a.1 b.1))), (20, RV.d (DV.int Go.IntKind.i64 (Plain.cmpR a.2 b.2))), (14, RV.d (DV.bool false))] [true, true, decide (List.length a.t ≤ 1000000), decide (List.length b.t ≤ 1000000), isR (DV.lst 3 (List.map vD a.2) false), isR (DV.lst 3 (List.map vD b.2) false), smR (unR (rD a.k)), smR (unR (rD b.k))] [(RV.d (DV.int Go.IntKind.i64 (Plain.cmpV { k := 2, n := 0, s := a.1 } { k := 2, n := 0, s := b.1 })), RV.d (DV.int Go.IntKind.i64 (Plain.cmpS a.1 b.1))), (RV.d (DV.bool (Plain.cmpS a.1 b.1 != 0)), RV.d (DV.bool false)), (RV.d (DV.int Go.IntKind.i64 (Plain.cmpR (unR (rD a.k)) (unR (rD b.k)))), RV.d (DV.int Go.IntKind.i64 (Plain.cmpR a.2 b.2)))] rfl (by kernel_rfl : runEnd (cfT t8) true _ 1000 0 _ _ (ini 21 [.d (chD a), .d (chD b)] []) = some (RV.d (DV.int Go.IntKind.i64 (Plain.cmpR a.2 b.2)), [], _, _)) (by refine ⟨?_, ?_, ?_, ?_, ?_, ?_, ?_, ?_, trivial⟩ <;> (first | rfl | exact sa.1 | exact sb.1 | exact ok_k ha | exact ok_k hb | (rw [unR_rD]; first | exact sa.2 | exact sb.2))) (by refine ⟨?_, le_bool h14, ?_, trivial⟩ <;> (first | exact ov_R a.k b.k | exact .of_eq (by simp [cmpV]))) ⟨by unfold cmpC; first | rw [if_neg (by simpa using h14)] | rw [if_pos (by simpa using h14)], rfl⟩
theorem rc_ent : EntOk Try.prog 70 (e2 rcG) := by
  refine e2_ok fun x x2 y c hg hc => ?_
  simp only [rcG, Option.some.injEq, Prod.mk.injEq] at hg
  obtain ⟨rfl, rfl⟩ := hg
  have s1 := hc (smC (toChg x)) (by simp)
  have s2 := hc (smC (toChg x2)) (by simp)
  obtain ⟨a, rfl, wa⟩ := isC_spec (hc (isC x) (by simp))
  obtain ⟨b, rfl, wb⟩ := isC_spec (hc (isC x2) (by simp))
  rw [toChg_chD] at s1 s2
  rw [toChg_chD, toChg_chD]
  exact rc_c a b wa wb s1 s2

noncomputable def t9 : List (Nat × Ent) := [(81, e1 (gRow (fun l => .int .i64 (chkRow l)) fun _ => true)), (82, e1 (gRow (fun l => .str (allL l)) fun l => decide (l.length ≤ 16) && l.all fun v => chk v == 0))]
theorem t9_ok : EntsOk Try.prog t9 := .cons rcheck_ent (.cons rall_ent .nil)
theorem row_c (r : List Val) (hl : r.length ≤ 65536) (hw : ∀ v ∈ r, v.wf) : C Try.prog 69 [.d (rD r)] [] (fun q o => q = .d (.bool (rowB r)) ∧ o = []) := by
  have ok := cfT_ok t9_ok
  refine C_of_run (fn := Try.f69) (body := rowC) true (by kernel_rfl) (by kernel_rfl) (by kernel_rfl) ?_
  have hr : okRow (r.map vD) = true := okRow_map hl hw
  by_cases hc : chkRow r = 0
  · obtain ⟨g1, g2⟩ := chkRow_zero hc
    have hB : rowB r = decide ((allL r).length ≤ 4000) := by
      by_cases h4 : 4000 < (allL r).length
      · rw [rowB, putRow_long hc h4]; simp; omega
      · rw [rowB, putRow_good hc h4]; simp; omega
    exact WK.fin ok 1000 0 [(5, RV.d (DV.bool true)), (10, RV.d (DV.bool (decide ((allL r).length ≤ 4000))))] [okRow (List.map vD r), true, okRow (List.map vD r), decide ((toRow (List.map vD r)).length ≤ 16) && (toRow (List.map vD r)).all fun v => Plain.chk v == 0] [(RV.d (DV.bool (Plain.chkRow (toRow (List.map vD r)) == 0)), RV.d (DV.bool true)), (RV.d (DV.bool (decide ((Nat.cast (R := Int) (List.length (Plain.allL (toRow (List.map vD r))))) ≤ 4000))), RV.d (DV.bool (decide ((allL r).length ≤ 4000))))] rfl (by kernel_rfl : runEnd (cfT t9) true _ 1000 0 _ _ (ini 12 [.d (rD r)] []) = some (RV.d (DV.bool (decide ((allL r).length ≤ 4000))), [], _, _)) (by refine ⟨?_, ?_, ?_, ?_, trivial⟩ <;> (first | rfl | exact hr | (rw [toRow_map]; simp only [Bool.and_eq_true, decide_eq_true_eq, List.all_eq_true, beq_iff_eq]; exact ⟨g1, g2⟩))) (by refine ⟨?_, ?_, trivial⟩ <;> (first | exact le_bool (by rw [toRow_map, hc]; rfl) | (refine le_bool ?_; rw [toRow_map]; apply Bool.eq_iff_iff.2; simp only [decide_eq_true_eq]; omega))) ⟨by rw [hB], rfl⟩
  · have hB : rowB r = false := by rw [rowB, putRow_bad hc]; simpa using hc
    exact WK.fin ok 1000 0 [(5, RV.d (DV.bool false))] [okRow (List.map vD r), true] [(RV.d (DV.bool (Plain.chkRow (toRow (List.map vD r)) == 0)), RV.d (DV.bool false))] rfl (by kernel_rfl : runEnd (cfT t9) true _ 1000 0 _ _ (ini 12 [.d (rD r)] []) = some (RV.d (DV.bool false), [], _, _)) (by refine ⟨?_, ?_, trivial⟩ <;> (first | rfl | exact hr)) ⟨(by exact le_bool (by rw [toRow_map]; simpa using hc)), trivial⟩ ⟨by rw [hB], rfl⟩
theorem row_ent : EntOk Try.prog 69 (e1 roG) := by
  refine e1_ok fun x y c hg hc => ?_
  simp only [roG, Option.some.injEq, Prod.mk.injEq] at hg
  obtain ⟨rfl, rfl⟩ := hg
  obtain ⟨a, rfl, wa, la⟩ := isR_spec (hc (isR x) (by simp))
  rw [unR_rD]
  exact row_c a la wa
end Go.Proofs.Ytljfolepmkcjlaa
