/-
  The law ChangeTakes, run.
-/
import Derived.Test.YtljfolepmkcjlaaD3
import Derived.Test.YtljfolepmkcjlaaDW
import Derived.Test.YtljfolepmkcjlaaCS
namespace Go.Proofs.Ytljfolepmkcjlaa
open Go.RowKit Plain Am IntWalk
set_option maxRecDepth 100000
set_option linter.unusedVariables false
set_option linter.unusedSimpArgs false

def ctE : Ent := fun a o => match a, o with
  | [.d (.str s)], [] => some (.tup [.d (chL (tkR (takeC s)).1), .d (.int .i64 (tkR (takeC s)).2)], [], [decide (s.length ≤ 65536)])
  | _, _ => none
noncomputable abbrev lkC : Code := bodyOf Try.f5
noncomputable def tl4 : List (Nat × Ent) := [(20, e0 (some (.bool true, []))), (21, ctE), (22, ctE), (16, e2 smG)]
theorem oneC_ok {t k o n : List Val} {r : Bs} {x : Chg} {q : Bs} (hk : (∀ v ∈ k, v.wf) ∧ k.length ≤ 16) (ho : (∀ v ∈ o, v.wf) ∧ o.length ≤ 16) (hn : (∀ v ∈ n, v.wf) ∧ n.length ≤ 16) (h : oneC t k o n r = some (x, q)) : Chg.ok x := by
  unfold oneC at h
  split at h
  · split at h
    · injection h with h; injection h with e1 e2; subst e1
      exact ⟨⟨hk.1, ho.1, hn.1⟩, by simp only; omega, by simp only; omega, by simp only; omega⟩
    · cases h
  · cases h
theorem chgN_ok {s : Bs} {x : Chg} {r : Bs} (h : chgN s = some (x, r)) : Chg.ok x := by
  cases h1 : partN s with
  | none => unfold chgN at h; rw [h1] at h; cases h
  | some p1 =>
    obtain ⟨t, s1⟩ := p1
    cases h2 : partN s1 with
    | none => unfold chgN at h; rw [h1] at h; simp only [h2] at h; cases h
    | some p2 =>
      obtain ⟨k, s2⟩ := p2
      cases h3 : partN s2 with
      | none => unfold chgN at h; rw [h1] at h; simp only [h2, h3] at h; cases h
      | some p3 =>
        obtain ⟨o, s3⟩ := p3
        cases h4 : partN s3 with
        | none => unfold chgN at h; rw [h1] at h; simp only [h2, h3, h4] at h; cases h
        | some p4 =>
          obtain ⟨n, s4⟩ := p4
          rw [chgN_of h1 h2 h3 h4] at h
          exact oneC_ok (partN_wf h2) (partN_wf h3) (partN_wf h4) h
theorem chgsN_ok : ∀ {m : Nat} {s : Bs} {l : List Chg} {r : Bs}, chgsN m s = some (l, r) → ∀ c ∈ l, Chg.ok c
  | 0, s, l, r, h, c, hc => by simp only [chgsN, Option.some.injEq, Prod.mk.injEq] at h; rw [← h.1] at hc; simp at hc
  | m + 1, s, l, r, h, c, hc => by
    simp only [chgsN] at h
    split at h
    · cases h
    · rename_i x r1 hx
      cases hq : chgsN m r1 with
      | none => rw [hq] at h; cases h
      | some q =>
        rw [hq] at h
        simp only [Option.map_some, Option.some.injEq, Prod.mk.injEq] at h
        rw [← h.1] at hc
        rcases List.mem_cons.1 hc with rfl | hc
        · exact chgN_ok hx
        · exact chgsN_ok (l := q.1) (r := q.2) hq c hc
theorem takeC_ok {s : Bs} {l : List Chg} (h : takeC s = some l) : okL l := by
  by_cases hn : (takeN s).2.2 ≠ 0 ∨ (takeN s).1 > 1000
  · rw [takeC_bad hn] at h; cases h
  · cases hq : chgsN (takeN s).1 (s.drop (takeN s).2.1) with
    | none => rw [takeC_none hn hq] at h; cases h
    | some q =>
      rw [takeC_some hn (l := q.1) (r := q.2) hq] at h
      split at h
      · rename_i hh
        injection h with h
        subst h
        refine ⟨?_, chgsN_ok (l := q.1) (r := q.2) hq⟩
        have := hh.2
        simp only [mayL, Bool.and_eq_true, decide_eq_true_eq] at this
        omega
      · cases h
theorem tkR_ok (s : Bs) : okL (tkR (takeC s)).1 := by
  cases h : takeC s with
  | none => exact ⟨by decide, by simp [tkR]⟩
  | some l => exact takeC_ok h
theorem ctE_ok {f : Nat} (h : ∀ s : Bs, s.length ≤ 65536 → C Try.prog f [.d (.str s)] [] (fun r o => r = .tup [.d (chL (tkR (takeC s)).1), .d (.int .i64 (tkR (takeC s)).2)] ∧ o = [])) : EntOk Try.prog f ctE := by
  intro a o r o' c hg hc
  unfold ctE at hg
  split at hg
  · rename_i s
    simp only [Option.some.injEq, Prod.mk.injEq] at hg
    obtain ⟨rfl, rfl, rfl⟩ := hg
    exact h s (of_decide_eq_true (hc (decide (s.length ≤ 65536)) (by simp)))
  · cases hg
theorem tl4_ok : EntsOk Try.prog tl4 := .cons (e0_ok fun y c h _ => by simp at h; obtain ⟨rfl, rfl⟩ := h; exact works22_c) (.cons (ctE_ok take_c) (.cons (ctE_ok rtake_c) (.cons sa_ent .nil)))
theorem takes_c (s : Bs) : C Try.prog 5 [.d (.str s)] [] (fun r o => r = .d (.bool true) ∧ o = []) := by
  have ok := cfT_ok tl4_ok
  refine C_of_run (fn := Try.f5) (body := lkC) true (by kernel_rfl) (by kernel_rfl) (by kernel_rfl) ?_
  by_cases hl : 8192 < s.length
  · skip
    exact WK.fin ok 1000 0 [(11, RV.d (DV.bool true))] [] [(RV.d (DV.bool (decide (8192 < (Nat.cast (R := Int) (List.length s))))), RV.d (DV.bool true))] rfl (by kernel_rfl : runEnd (cfT tl4) true _ 1000 0 _ _ (ini 30 [.d (.str s)] []) = some (RV.d (DV.bool true), [], _, _)) trivial ⟨(by exact le_bool (decide_eq_true (by omega))), trivial⟩ ⟨rfl, rfl⟩
  · have hk := isL_chL (tkR_ok s)
    exact WK.fin ok 1000 0 [(11, RV.d (DV.bool false)), (24, RV.d (DV.bool true)), (28, RV.d (DV.bool true))] [decide (List.length s ≤ 65536), decide (List.length s ≤ 65536), isL (DV.lst 4 (List.map chD (tkR (Plain.takeC s)).1) false), isL (DV.lst 4 (List.map chD (tkR (Plain.takeC s)).1) false)] [(RV.d (DV.bool (decide (8192 < (Nat.cast (R := Int) (List.length s))))), RV.d (DV.bool false)), (RV.d (DV.bool ((tkR (Plain.takeC s)).2 == (tkR (Plain.takeC s)).2)), RV.d (DV.bool true)), (RV.d (DV.bool (decide (unL (chL (tkR (Plain.takeC s)).fst) = unL (chL (tkR (Plain.takeC s)).fst)))), RV.d (DV.bool true))] rfl (by kernel_rfl : runEnd (cfT tl4) true _ 1000 0 _ _ (ini 30 [.d (.str s)] []) = some (RV.d (DV.bool true), [], _, _)) (by refine ⟨?_, ?_, ?_, ?_, trivial⟩ <;> (first | exact decide_eq_true (by omega) | exact hk)) (by refine ⟨?_, ?_, ?_, trivial⟩ <;> (first | exact le_bool (decide_eq_false (by omega)) | exact le_bool (beq_self_eq_true _) | exact le_bool (decide_eq_true rfl))) ⟨rfl, rfl⟩
end Go.Proofs.Ytljfolepmkcjlaa
