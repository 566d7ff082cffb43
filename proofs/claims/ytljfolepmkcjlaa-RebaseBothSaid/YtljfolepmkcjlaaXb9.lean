/-
  Texts that the claim leans on, one behind the other, part 9.
-/
import Derived.Test.YtljfolepmkcjlaaXb8
import Derived.Test.YtljfolepmkcjlaaRows

/-
  The law RebaseBoth, run.
-/
namespace Go.Proofs.Ytljfolepmkcjlaa
open Go.RowKit Plain Am IntWalk
set_option maxRecDepth 100000
set_option linter.unusedVariables false
set_option linter.unusedSimpArgs false

noncomputable abbrev lbC : Code := bodyOf Try.f4
/-- Upon, nil slices among the arguments -/
def upN : Ent := fun a o => match a, o with
  | [.d x, .d (.lst 0 [] true), .d (.bool win)], [] => some (.tup [.d (chL (meetR (upF win) (unL x) []).1), .d (.int .i64 (meetR (upF win) (unL x) []).2)], [], [isL x])
  | [.d (.lst 0 [] true), .d x, .d (.bool win)], [] => some (.tup [.d (chL (meetR (upF win) [] (unL x)).1), .d (.int .i64 (meetR (upF win) [] (unL x)).2)], [], [isL x])
  | [.d x, .d y, .d (.bool win)], [] => some (.tup [.d (chL (meetR (upF win) (unL x) (unL y)).1), .d (.int .i64 (meetR (upF win) (unL x) (unL y)).2)], [], [isL x, isL y])
  | _, _ => none
noncomputable def tbB : List (Nat × Ent) := [(10, e0 (some (.bool true, []))), (11, e1 grG), (12, upN), (17, e1 ckG), (19, cnE), (16, e2 smG), (18, isE 40), (40, is1E)]
theorem upN_ent : EntOk Try.prog 12 upN := by
  intro a o r o' c hg hc
  unfold upN at hg
  split at hg
  · rename_i x win
    simp only [Option.some.injEq, Prod.mk.injEq] at hg
    obtain ⟨rfl, rfl, rfl⟩ := hg
    obtain ⟨A, rfl, hA⟩ := isL_spec (hc (isL x) (by simp))
    rw [unL_chL]
    refine C.args_le (args' := [.d (chL A), .d (chL []), .d (.bool win)]) rfl (fun i x y hx hy => ?_) (up_c A [] win hA okL_nil)
    match i, hx, hy with
    | 0, hx, hy => simp at hx hy; subst hx hy; exact .of_eq rfl
    | 1, hx, hy => simp at hx hy; subst hx hy; exact nil_leM
    | 2, hx, hy => simp at hx hy; subst hx hy; exact .of_eq rfl
    | i + 3, hx, _ => simp at hx
  · rename_i x win _
    simp only [Option.some.injEq, Prod.mk.injEq] at hg
    obtain ⟨rfl, rfl, rfl⟩ := hg
    obtain ⟨A, rfl, hA⟩ := isL_spec (hc (isL x) (by simp))
    rw [unL_chL]
    refine C.args_le (args' := [.d (chL []), .d (chL A), .d (.bool win)]) rfl (fun i x y hx hy => ?_) (up_c [] A win okL_nil hA)
    match i, hx, hy with
    | 0, hx, hy => simp at hx hy; subst hx hy; exact nil_leM
    | 1, hx, hy => simp at hx hy; subst hx hy; exact .of_eq rfl
    | 2, hx, hy => simp at hx hy; subst hx hy; exact .of_eq rfl
    | i + 3, hx, _ => simp at hx
  · rename_i x y win _ _
    simp only [Option.some.injEq, Prod.mk.injEq] at hg
    obtain ⟨rfl, rfl, rfl⟩ := hg
    obtain ⟨A, rfl, hA⟩ := isL_spec (hc (isL x) (by simp))
    obtain ⟨B, rfl, hB⟩ := isL_spec (hc (isL y) (by simp))
    rw [unL_chL, unL_chL]
    exact up_c A B win hA hB
  · cases hg
theorem is24_c (els : List DV) : C Try.prog 18 [.d (.lst 4 els false)] [] (fun r o => r = .clo (.func 40) [] [.ptr 0 0] ∧ o = [.box lT [.d (.lst 4 els false)]]) := by
  have ok := cfT_ok (l := []) .nil
  refine C_of_run (fn := Try.f18) (body := bodyOf Try.f18) false (by kernel_rfl) (by kernel_rfl) (by kernel_rfl) ?_
  exact WK.fin ok 1000 0 [] [] [] rfl (by kernel_rfl : runEnd (cfT []) false _ 1000 0 _ _ (ini 4 [.d (.lst 4 els false)] []) = some (.clo (.func 40) [] [.ptr 0 0], [.box lT [.d (.lst 4 els false)]], _, _)) trivial trivial ⟨rfl, rfl⟩
theorem is241_c (l w : List Chg) (hl : okL l) (hw : okL w) (e : Int) : C Try.prog 40 [.d (chL l), .d (.int .i64 e), .ptr 0 0] [.box lT [.d (chL w)]] (fun r o => r = .d (.bool (decide (e = 0) && decide (l = w))) ∧ o = [.box lT [.d (chL w)]]) := by
  have ok := cfT_ok tsm_ok
  refine C_of_run (fn := Try.f40) (body := bodyOf Try.f40) false (by kernel_rfl) (by kernel_rfl) (by kernel_rfl) ?_
  by_cases h : e = 0
  · exact WK.fin ok 1000 0 [(8, .d (.bool true))] [isL (chL l), isL (chL w)] [(.d (.bool (e == 0)), .d (.bool true))] rfl (by kernel_rfl : runEnd (cfT tsm) false _ 1000 0 _ _ (ini 13 [.d (chL l), .d (.int .i64 e), .ptr 0 0] [.box lT [.d (chL w)]]) = some (.d (.bool (decide (unL (chL l) = unL (chL w)))), [.box lT [.d (chL w)]], _, _)) ⟨isL_chL hl, isL_chL hw, trivial⟩ ⟨le_bool (by simpa using h), trivial⟩ ⟨by rw [unL_chL, unL_chL, decide_eq_true h]; rfl, rfl⟩
  · exact WK.fin ok 1000 0 [(8, .d (.bool false))] [] [(.d (.bool (e == 0)), .d (.bool false))] rfl (by kernel_rfl : runEnd (cfT tsm) false _ 1000 0 _ _ (ini 13 [.d (chL l), .d (.int .i64 e), .ptr 0 0] [.box lT [.d (chL w)]]) = some (.d (.bool false), [.box lT [.d (chL w)]], _, _)) trivial ⟨le_bool (by simpa using h), trivial⟩ ⟨by rw [decide_eq_false h]; rfl, rfl⟩
theorem tbB_ok : EntsOk Try.prog tbB := .cons (e0_ok fun y c h _ => by simp at h; obtain ⟨rfl, rfl⟩ := h; exact works_c) (.cons gr_ent (.cons upN_ent (.cons ck_ent (.cons (cn_ent Concat_c) (.cons sa_ent (.cons (isE_ok is24_c) (.cons (is1E_ok is241_c) .nil)))))))
theorem meetQ_snd (f : Chg × Option Chg → Option Chg) (a b : List Chg) : (meetQ f a b).2 = refE a b := by
  unfold meetQ
  split
  · rename_i h; exact h.symm
  · rfl
theorem meetQ_upon {win : Bool} {a b : List Chg} (h : refE a b = 0) : meetQ (upF win) a b = (uponL win a b, 0) := by
  unfold meetQ uponL
  rw [if_pos h]
  congr 1
theorem refE_zero {a b : List Chg} (h : refE a b = 0) : mayL a = true ∧ mayL b = true ∧ ∀ x ∈ a, fits b x = true := by
  unfold refE at h
  split at h
  · rename_i hm
    simp only [Bool.and_eq_true] at hm
    split at h
    · rename_i hf; exact ⟨hm.1, hm.2, List.all_eq_true.1 hf⟩
    · cases h
  · cases h
set_option maxHeartbeats 4000000 in
theorem both_c (ours th : List Chg) (win : Bool) (lo : ours.length ≤ 9223372036854775807) (lt : th.length ≤ 9223372036854775807) (wo : ∀ c ∈ ours, c.wf) (wt : ∀ c ∈ th, c.wf) : C Try.prog 4 [.d (chL ours), .d (chL th), .d (.bool win)] [] (fun r o => r = .d (.bool true) ∧ o = []) := by
  have ok := cfT_ok tbB_ok
  refine C_of_run (fn := Try.f4) (body := lbC) true (by kernel_rfl) (by kernel_rfl) (by kernel_rfl) ?_
  have i1 := isLw_chL lo wo
  have i2 := isLw_chL lt wt
  cases g1 : greatL ours with
  | true =>
    have q1 := ov_G g1
    exact WK.fin ok 1000 0 [(16, RV.d (DV.bool true)), (17, RV.d (DV.bool true)), (20, RV.d (DV.bool true))] [isLw (DV.lst 4 (List.map chD ours) false)] [(RV.d (DV.bool (greatL (unL (chL ours)))), RV.d (DV.bool true)), (RV.d (DV.bool true), RV.d (DV.bool true)), (RV.d (DV.bool true), RV.d (DV.bool true))] rfl (by kernel_rfl : runEnd (cfT tbB) true _ 1000 0 _ _ (ini 103 [.d (chL ours), .d (chL th), .d (.bool win)] []) = some (RV.d (DV.bool true), [], _, _)) ⟨(by exact i1), trivial⟩ (by refine ⟨?_, ?_, ?_, trivial⟩ <;> (first | exact q1 | exact le_bool rfl)) ⟨rfl, rfl⟩
  | false =>
    have q1 := ov_G g1
    cases g2 : greatL th with
    | true =>
      have q2 := ov_G g2
      exact WK.fin ok 1000 0 [(16, RV.d (DV.bool false)), (17, RV.d (DV.bool false)), (19, RV.d (DV.bool true)), (20, RV.d (DV.bool true))] [isLw (DV.lst 4 (List.map chD ours) false), isLw (DV.lst 4 (List.map chD th) false)] [(RV.d (DV.bool (greatL (unL (chL ours)))), RV.d (DV.bool false)), (RV.d (DV.bool false), RV.d (DV.bool false)), (RV.d (DV.bool (greatL (unL (chL th)))), RV.d (DV.bool true)), (RV.d (DV.bool true), RV.d (DV.bool true))] rfl (by kernel_rfl : runEnd (cfT tbB) true _ 1000 0 _ _ (ini 103 [.d (chL ours), .d (chL th), .d (.bool win)] []) = some (RV.d (DV.bool true), [], _, _)) (by refine ⟨?_, ?_, trivial⟩ <;> (first | exact i1 | exact i2)) (by refine ⟨?_, ?_, ?_, ?_, trivial⟩ <;> (first | exact q1 | exact q2 | exact le_bool rfl)) ⟨rfl, rfl⟩
    | false =>
      have q2 := ov_G g2
      have ho := great_no g1 wo
      have ht := great_no g2 wt
      have l1 : ours.length ≤ 60 := by
        simp only [greatL, Bool.or_eq_false_iff, decide_eq_false_iff_not] at g1; omega
      have l2 : th.length ≤ 60 := by
        simp only [greatL, Bool.or_eq_false_iff, decide_eq_false_iff_not] at g2; omega
      have k1 := isL_chL ho
      have k2 := isL_chL ht
      have eU := meet_eq (upF win) ours th wo wt
      have eV := meet_eq (upF (!win)) th ours wt wo
      obtain ⟨A, hA⟩ : ∃ A, (meetQ (upF win) ours th).1 = A := ⟨_, rfl⟩
      obtain ⟨B, hB⟩ : ∃ B, (meetQ (upF (!win)) th ours).1 = B := ⟨_, rfl⟩
      obtain ⟨e, he⟩ : ∃ e, refE ours th = e := ⟨_, rfl⟩
      have he2 : refE th ours = e := by rw [refE_symm wt wo]; exact he
      have kA : isL (chL A) = true := by rw [← hA]; exact isL_chL (okL_up ho ht)
      have kB : isL (chL B) = true := by rw [← hB]; exact isL_chL (okL_up ht ho)
      have v1 : RVle (.d (chL (meetR (upF win) (unL (chL ours)) (unL (chL th))).1)) (.d (chL A)) := .of_eq (by rw [unL_chL, unL_chL, eU, hA])
      have v2 : RVle (.d (.int .i64 (meetR (upF win) (unL (chL ours)) (unL (chL th))).2)) (.d (.int .i64 e)) := .of_eq (by rw [unL_chL, unL_chL, eU, meetQ_snd, he])
      have v3 : RVle (.d (chL (meetR (upF (!win)) (unL (chL th)) (unL (chL ours))).1)) (.d (chL B)) := .of_eq (by rw [unL_chL, unL_chL, eV, hB])
      have v4 : RVle (.d (.int .i64 (meetR (upF (!win)) (unL (chL th)) (unL (chL ours))).2)) (.d (.int .i64 e)) := .of_eq (by rw [unL_chL, unL_chL, eV, meetQ_snd, he2])
      have y1 : RVle (.d (.bool (e == e))) (.d (.bool true)) := le_bool (by simp)
      cases hm : mayL ours with
      | false =>
        have hne : e ≠ 0 := by
          rw [← he]; intro h
          have := (refE_zero h).1
          rw [hm] at this; cases this
        have y2 : RVle (.d (.bool (e != 0))) (.d (.bool true)) := le_bool (by simpa using hne)
        have q3 : RVle (.d (.bool ((if mayL (unL (chL ours)) = true then (0 : Int) else 2) == 0))) (.d (.bool false)) := le_bool (by rw [unL_chL, hm]; rfl)
        exact WK.fin ok 1000 0 [(16, RV.d (DV.bool false)), (17, RV.d (DV.bool false)), (19, RV.d (DV.bool false)), (20, RV.d (DV.bool false)), (26, RV.d (DV.lst 4 (List.map chD A) false)), (27, RV.d (DV.int Go.IntKind.i64 e)), (34, RV.d (DV.lst 4 (List.map chD B) false)), (35, RV.d (DV.int Go.IntKind.i64 e)), (38, RV.d (DV.bool false)), (39, RV.d (DV.bool false)), (70, RV.d (DV.bool false)), (72, RV.d (DV.bool true)), (73, RV.d (DV.bool true)), (76, RV.d (DV.bool true)), (79, RV.d (DV.bool true))] [isLw (DV.lst 4 (List.map chD ours) false), isLw (DV.lst 4 (List.map chD th) false), isL (DV.lst 4 (List.map chD ours) false), isL (DV.lst 4 (List.map chD th) false), isL (DV.lst 4 (List.map chD th) false), isL (DV.lst 4 (List.map chD ours) false), isL (DV.lst 4 (List.map chD ours) false)] [(RV.d (DV.bool (greatL (unL (chL ours)))), RV.d (DV.bool false)), (RV.d (DV.bool false), RV.d (DV.bool false)), (RV.d (DV.bool (greatL (unL (chL th)))), RV.d (DV.bool false)), (RV.d (DV.bool false), RV.d (DV.bool false)), (RV.d (DV.lst 4 (List.map chD (Plain.meetR (Plain.upF win) (unL (DV.lst (4) (List.map chD ours) false)) (unL (DV.lst (4) (List.map chD th) false))).1) false), RV.d (DV.lst 4 (List.map chD A) false)), (RV.d (DV.int Go.IntKind.i64 (Plain.meetR (Plain.upF win) (unL (DV.lst (4) (List.map chD ours) false)) (unL (DV.lst (4) (List.map chD th) false))).2), RV.d (DV.int Go.IntKind.i64 e)), (RV.d (DV.lst 4 (List.map chD (Plain.meetR (Plain.upF (!win)) (unL (DV.lst (4) (List.map chD th) false)) (unL (DV.lst (4) (List.map chD ours) false))).1) false), RV.d (DV.lst 4 (List.map chD B) false)), (RV.d (DV.int Go.IntKind.i64 (Plain.meetR (Plain.upF (!win)) (unL (DV.lst (4) (List.map chD th) false)) (unL (DV.lst (4) (List.map chD ours) false))).2), RV.d (DV.int Go.IntKind.i64 e)), (RV.d (DV.bool ((if Plain.mayL (unL (chL ours)) = true then (0 : Int) else 2) == 0)), RV.d (DV.bool false)), (RV.d (DV.bool false), RV.d (DV.bool false)), (RV.d (DV.bool false), RV.d (DV.bool false)), (RV.d (DV.bool (e != 0)), RV.d (DV.bool true)), (RV.d (DV.bool true), RV.d (DV.bool true)), (RV.d (DV.bool true), RV.d (DV.bool true)), (RV.d (DV.bool (e == e)), RV.d (DV.bool true))] rfl (by kernel_rfl : runEnd (cfT tbB) true _ 1000 0 _ _ (ini 103 [.d (chL ours), .d (chL th), .d (.bool win)] []) = some (RV.d (DV.bool true), [], _, _)) (by refine ⟨?_, ?_, ?_, ?_, ?_, ?_, ?_, trivial⟩ <;> (first | rfl | exact i1 | exact i2 | exact k1 | exact k2)) (by refine ⟨?_, ?_, ?_, ?_, ?_, ?_, ?_, ?_, ?_, ?_, ?_, ?_, ?_, ?_, ?_, trivial⟩ <;> (first | exact q1 | exact q2 | exact q3 | exact v1 | exact v2 | exact v3 | exact v4 | exact y1 | exact y2 | exact le_bool rfl)) ⟨rfl, rfl⟩
      | true =>
        have hs : Set' ours := ⟨hm, wo⟩
        have q3 : RVle (.d (.bool ((if mayL (unL (chL ours)) = true then (0 : Int) else 2) == 0))) (.d (.bool true)) := le_bool (by rw [unL_chL, hm]; rfl)
        obtain ⟨c1, c2, c3⟩ := upon_self (win := win) hs
        rw [← meet_eq (upF win) ours [] wo (by simp)] at c1
        rw [← meet_eq (upF win) ours ours wo wo] at c2
        rw [← meet_eq (upF win) [] ours (by simp) wo] at c3
        have w1 : RVle (.d (chL (meetR (upF win) (unL (chL ours)) []).1)) (.d (chL ours)) := .of_eq (by rw [unL_chL, c1])
        have w2 : RVle (.d (.int .i64 (meetR (upF win) (unL (chL ours)) []).2)) (.d (.int .i64 0)) := .of_eq (by rw [unL_chL, c1])
        have w3 : RVle (.d (chL (meetR (upF win) (unL (chL ours)) (unL (chL ours))).1)) (.d (.lst 4 [] false)) := .of_eq (by rw [unL_chL, c2]; rfl)
        have w4 : RVle (.d (.int .i64 (meetR (upF win) (unL (chL ours)) (unL (chL ours))).2)) (.d (.int .i64 0)) := .of_eq (by rw [unL_chL, c2])
        have w5 : RVle (.d (chL (meetR (upF win) [] (unL (chL ours))).1)) (.d (.lst 4 [] false)) := .of_eq (by rw [unL_chL, c3]; rfl)
        have w6 : RVle (.d (.int .i64 (meetR (upF win) [] (unL (chL ours))).2)) (.d (.int .i64 0)) := .of_eq (by rw [unL_chL, c3])
        have w7 : RVle (.d (.bool (true && decide (unL (chL ours) = unL (.lst 4 (ours.map chD) false))))) (.d (.bool true)) := le_bool (by show (true && decide (unL (chL ours) = unL (chL ours))) = true; simp)
        by_cases hz : e = 0
        · subst hz
          obtain ⟨_, mt, hf⟩ := refE_zero he
          have hst : Set' th := ⟨mt, wt⟩
          obtain ⟨X, x1, x2⟩ := both_law (win := win) hs hst hf (by omega)
          have eA : uponL win ours th = A := by rw [← hA, meetQ_upon he]
          have eB : uponL (!win) th ours = B := by rw [← hB, meetQ_upon he2]
          rw [eA] at x1
          rw [eB] at x2
          have oX : okL X := by
            have := concatC_ok ht (by rw [← hA]; exact okL_up ho ht : okL A) (by
              have : A.length ≤ ours.length := by rw [← eA]; exact List.length_filterMap_le ..
              omega)
            rw [x1] at this; exact this
          have kX := isL_chL oX
          have z1 := ov_cn1 x1
          have z2 := ov_cn2 x1
          have z3 := ov_cn1 x2
          have z4 := ov_cn2 x2
          have z5 : RVle (.d (.bool (decide (unL (chL X) = unL (chL X))))) (.d (.bool true)) := le_bool (decide_eq_true rfl)
          exact WK.fin ok 1000 0 [(16, RV.d (DV.bool false)), (17, RV.d (DV.bool false)), (19, RV.d (DV.bool false)), (20, RV.d (DV.bool false)), (26, RV.d (DV.lst 4 (List.map chD A) false)), (27, RV.d (DV.int Go.IntKind.i64 (0))), (34, RV.d (DV.lst 4 (List.map chD B) false)), (35, RV.d (DV.int Go.IntKind.i64 (0))), (38, RV.d (DV.bool true)), (39, RV.d (DV.bool true)), (45, RV.d (DV.lst 4 (List.map chD ours) false)), (46, RV.d (DV.int Go.IntKind.i64 (0))), (47, RV.d (DV.bool true)), (48, RV.d (DV.bool false)), (49, RV.d (DV.bool false)), (55, RV.d (DV.lst 4 [] false)), (56, RV.d (DV.int Go.IntKind.i64 (0))), (57, RV.d (DV.bool true)), (58, RV.d (DV.bool false)), (59, RV.d (DV.bool false)), (60, RV.d (DV.bool false)), (65, RV.d (DV.lst 4 [] false)), (66, RV.d (DV.int Go.IntKind.i64 (0))), (67, RV.d (DV.bool true)), (68, RV.d (DV.bool false)), (69, RV.d (DV.bool false)), (70, RV.d (DV.bool false)), (72, RV.d (DV.bool false)), (73, RV.d (DV.bool false)), (75, RV.d (DV.bool false)), (76, RV.d (DV.bool false)), (84, RV.d (DV.lst 4 (List.map chD X) false)), (85, RV.d (DV.int Go.IntKind.i64 (0))), (90, RV.d (DV.lst 4 (List.map chD X) false)), (91, RV.d (DV.int Go.IntKind.i64 (0))), (93, RV.d (DV.bool true)), (94, RV.d (DV.bool true)), (96, RV.d (DV.bool true)), (97, RV.d (DV.bool true)), (98, RV.d (DV.bool true)), (101, RV.d (DV.bool true)), (102, RV.d (DV.bool true))] [isLw (DV.lst 4 (List.map chD ours) false), isLw (DV.lst 4 (List.map chD th) false), isL (DV.lst 4 (List.map chD ours) false), isL (DV.lst 4 (List.map chD th) false), isL (DV.lst 4 (List.map chD th) false), isL (DV.lst 4 (List.map chD ours) false), isL (DV.lst 4 (List.map chD ours) false), isL (DV.lst 4 (List.map chD ours) false), true, isL (DV.lst 4 (List.map chD ours) false), isL (DV.lst 4 (List.map chD ours) false), isL (DV.lst 4 (List.map chD ours) false), isL (DV.lst 4 (List.map chD ours) false), true, true, true, isL (DV.lst 4 (List.map chD ours) false), true, true, true, isL (DV.lst 4 (List.map chD th) false), isL (DV.lst 4 (List.map chD A) false), isL (DV.lst 4 (List.map chD ours) false), isL (DV.lst 4 (List.map chD B) false), isL (DV.lst 4 (List.map chD X) false), isL (DV.lst 4 (List.map chD X) false)] [(RV.d (DV.bool (greatL (unL (chL ours)))), RV.d (DV.bool false)), (RV.d (DV.bool false), RV.d (DV.bool false)), (RV.d (DV.bool (greatL (unL (chL th)))), RV.d (DV.bool false)), (RV.d (DV.bool false), RV.d (DV.bool false)), (RV.d (DV.lst 4 (List.map chD (Plain.meetR (Plain.upF win) (unL (DV.lst (4) (List.map chD ours) false)) (unL (DV.lst (4) (List.map chD th) false))).1) false), RV.d (DV.lst 4 (List.map chD A) false)), (RV.d (DV.int Go.IntKind.i64 (Plain.meetR (Plain.upF win) (unL (DV.lst (4) (List.map chD ours) false)) (unL (DV.lst (4) (List.map chD th) false))).2), RV.d (DV.int Go.IntKind.i64 (0))), (RV.d (DV.lst 4 (List.map chD (Plain.meetR (Plain.upF (!win)) (unL (DV.lst (4) (List.map chD th) false)) (unL (DV.lst (4) (List.map chD ours) false))).1) false), RV.d (DV.lst 4 (List.map chD B) false)), (RV.d (DV.int Go.IntKind.i64 (Plain.meetR (Plain.upF (!win)) (unL (DV.lst (4) (List.map chD th) false)) (unL (DV.lst (4) (List.map chD ours) false))).2), RV.d (DV.int Go.IntKind.i64 (0))), (RV.d (DV.bool ((if Plain.mayL (unL (chL ours)) = true then (0 : Int) else 2) == 0)), RV.d (DV.bool true)), (RV.d (DV.bool true), RV.d (DV.bool true)), (RV.d (DV.lst 4 (List.map chD (Plain.meetR (Plain.upF win) (unL (chL ours)) []).1) false), RV.d (DV.lst 4 (List.map chD ours) false)), (RV.d (DV.int Go.IntKind.i64 (Plain.meetR (Plain.upF win) (unL (chL ours)) []).2), RV.d (DV.int Go.IntKind.i64 (0))), (RV.d (DV.bool (true && decide (unL (chL ours) = unL (DV.lst (4) (List.map chD ours) false)))), RV.d (DV.bool true)), (RV.d (DV.bool false), RV.d (DV.bool false)), (RV.d (DV.bool false), RV.d (DV.bool false)), (RV.d (DV.lst 4 (List.map chD (Plain.meetR (Plain.upF win) (unL (DV.lst (4) (List.map chD ours) false)) (unL (DV.lst (4) (List.map chD ours) false))).1) false), RV.d (DV.lst 4 [] false)), (RV.d (DV.int Go.IntKind.i64 (Plain.meetR (Plain.upF win) (unL (DV.lst (4) (List.map chD ours) false)) (unL (DV.lst (4) (List.map chD ours) false))).2), RV.d (DV.int Go.IntKind.i64 (0))), (RV.d (DV.bool true), RV.d (DV.bool true)), (RV.d (DV.bool false), RV.d (DV.bool false)), (RV.d (DV.bool false), RV.d (DV.bool false)), (RV.d (DV.bool false), RV.d (DV.bool false)), (RV.d (DV.lst 4 (List.map chD (Plain.meetR (Plain.upF win) [] (unL (DV.lst (4) (List.map chD ours) false))).1) false), RV.d (DV.lst 4 [] false)), (RV.d (DV.int Go.IntKind.i64 (Plain.meetR (Plain.upF win) [] (unL (DV.lst (4) (List.map chD ours) false))).2), RV.d (DV.int Go.IntKind.i64 (0))), (RV.d (DV.bool true), RV.d (DV.bool true)), (RV.d (DV.bool false), RV.d (DV.bool false)), (RV.d (DV.bool false), RV.d (DV.bool false)), (RV.d (DV.bool false), RV.d (DV.bool false)), (RV.d (DV.bool false), RV.d (DV.bool false)), (RV.d (DV.bool false), RV.d (DV.bool false)), (RV.d (DV.bool false), RV.d (DV.bool false)), (RV.d (DV.bool false), RV.d (DV.bool false)), (RV.d (DV.lst 4 (List.map chD (Plain.concatC (unL (chL th)) (unL (chL A))).1) false), RV.d (DV.lst 4 (List.map chD X) false)), (RV.d (DV.int Go.IntKind.i64 (Plain.concatC (unL (chL th)) (unL (chL A))).2), RV.d (DV.int Go.IntKind.i64 (0))), (RV.d (DV.lst 4 (List.map chD (Plain.concatC (unL (chL ours)) (unL (chL B))).1) false), RV.d (DV.lst 4 (List.map chD X) false)), (RV.d (DV.int Go.IntKind.i64 (Plain.concatC (unL (chL ours)) (unL (chL B))).2), RV.d (DV.int Go.IntKind.i64 (0))), (RV.d (DV.bool true), RV.d (DV.bool true)), (RV.d (DV.bool true), RV.d (DV.bool true)), (RV.d (DV.bool true), RV.d (DV.bool true)), (RV.d (DV.bool true), RV.d (DV.bool true)), (RV.d (DV.bool true), RV.d (DV.bool true)), (RV.d (DV.bool (decide (unL (chL X) = unL (chL X)))), RV.d (DV.bool true)), (RV.d (DV.bool true), RV.d (DV.bool true))] rfl (by kernel_rfl : runEnd (cfT tbB) true _ 1000 0 _ _ (ini 103 [.d (chL ours), .d (chL th), .d (.bool win)] []) = some (RV.d (DV.bool true), [], _, _)) (by refine ⟨?_, ?_, ?_, ?_, ?_, ?_, ?_, ?_, ?_, ?_, ?_, ?_, ?_, ?_, ?_, ?_, ?_, ?_, ?_, ?_, ?_, ?_, ?_, ?_, ?_, ?_, trivial⟩ <;> (first | rfl | exact i1 | exact i2 | exact k1 | exact k2 | exact kA | exact kB | exact kX)) (by refine ⟨?_, ?_, ?_, ?_, ?_, ?_, ?_, ?_, ?_, ?_, ?_, ?_, ?_, ?_, ?_, ?_, ?_, ?_, ?_, ?_, ?_, ?_, ?_, ?_, ?_, ?_, ?_, ?_, ?_, ?_, ?_, ?_, ?_, ?_, ?_, ?_, ?_, ?_, ?_, ?_, ?_, ?_, trivial⟩ <;> (first | exact q1 | exact q2 | exact q3 | exact v1 | exact v2 | exact v3 | exact v4 | exact w1 | exact w2 | exact w3 | exact w4 | exact w5 | exact w6 | exact w7 | exact z1 | exact z2 | exact z3 | exact z4 | exact z5 | exact y1 | exact le_bool rfl)) ⟨rfl, rfl⟩
        · have y2 : RVle (.d (.bool (e != 0))) (.d (.bool true)) := le_bool (by simpa using hz)
          exact WK.fin ok 1000 0 [(16, RV.d (DV.bool false)), (17, RV.d (DV.bool false)), (19, RV.d (DV.bool false)), (20, RV.d (DV.bool false)), (26, RV.d (DV.lst 4 (List.map chD A) false)), (27, RV.d (DV.int Go.IntKind.i64 e)), (34, RV.d (DV.lst 4 (List.map chD B) false)), (35, RV.d (DV.int Go.IntKind.i64 e)), (38, RV.d (DV.bool true)), (39, RV.d (DV.bool true)), (45, RV.d (DV.lst 4 (List.map chD ours) false)), (46, RV.d (DV.int Go.IntKind.i64 (0))), (47, RV.d (DV.bool true)), (48, RV.d (DV.bool false)), (49, RV.d (DV.bool false)), (55, RV.d (DV.lst 4 [] false)), (56, RV.d (DV.int Go.IntKind.i64 (0))), (57, RV.d (DV.bool true)), (58, RV.d (DV.bool false)), (59, RV.d (DV.bool false)), (60, RV.d (DV.bool false)), (65, RV.d (DV.lst 4 [] false)), (66, RV.d (DV.int Go.IntKind.i64 (0))), (67, RV.d (DV.bool true)), (68, RV.d (DV.bool false)), (69, RV.d (DV.bool false)), (70, RV.d (DV.bool false)), (72, RV.d (DV.bool true)), (73, RV.d (DV.bool true)), (76, RV.d (DV.bool true)), (79, RV.d (DV.bool true))] [isLw (DV.lst 4 (List.map chD ours) false), isLw (DV.lst 4 (List.map chD th) false), isL (DV.lst 4 (List.map chD ours) false), isL (DV.lst 4 (List.map chD th) false), isL (DV.lst 4 (List.map chD th) false), isL (DV.lst 4 (List.map chD ours) false), isL (DV.lst 4 (List.map chD ours) false), isL (DV.lst 4 (List.map chD ours) false), true, isL (DV.lst 4 (List.map chD ours) false), isL (DV.lst 4 (List.map chD ours) false), isL (DV.lst 4 (List.map chD ours) false), isL (DV.lst 4 (List.map chD ours) false), true, true, true, isL (DV.lst 4 (List.map chD ours) false), true, true, true] [(RV.d (DV.bool (greatL (unL (chL ours)))), RV.d (DV.bool false)), (RV.d (DV.bool false), RV.d (DV.bool false)), (RV.d (DV.bool (greatL (unL (chL th)))), RV.d (DV.bool false)), (RV.d (DV.bool false), RV.d (DV.bool false)), (RV.d (DV.lst 4 (List.map chD (Plain.meetR (Plain.upF win) (unL (DV.lst (4) (List.map chD ours) false)) (unL (DV.lst (4) (List.map chD th) false))).1) false), RV.d (DV.lst 4 (List.map chD A) false)), (RV.d (DV.int Go.IntKind.i64 (Plain.meetR (Plain.upF win) (unL (DV.lst (4) (List.map chD ours) false)) (unL (DV.lst (4) (List.map chD th) false))).2), RV.d (DV.int Go.IntKind.i64 e)), (RV.d (DV.lst 4 (List.map chD (Plain.meetR (Plain.upF (!win)) (unL (DV.lst (4) (List.map chD th) false)) (unL (DV.lst (4) (List.map chD ours) false))).1) false), RV.d (DV.lst 4 (List.map chD B) false)), (RV.d (DV.int Go.IntKind.i64 (Plain.meetR (Plain.upF (!win)) (unL (DV.lst (4) (List.map chD th) false)) (unL (DV.lst (4) (List.map chD ours) false))).2), RV.d (DV.int Go.IntKind.i64 e)), (RV.d (DV.bool ((if Plain.mayL (unL (chL ours)) = true then (0 : Int) else 2) == 0)), RV.d (DV.bool true)), (RV.d (DV.bool true), RV.d (DV.bool true)), (RV.d (DV.lst 4 (List.map chD (Plain.meetR (Plain.upF win) (unL (chL ours)) []).1) false), RV.d (DV.lst 4 (List.map chD ours) false)), (RV.d (DV.int Go.IntKind.i64 (Plain.meetR (Plain.upF win) (unL (chL ours)) []).2), RV.d (DV.int Go.IntKind.i64 (0))), (RV.d (DV.bool (true && decide (unL (chL ours) = unL (DV.lst (4) (List.map chD ours) false)))), RV.d (DV.bool true)), (RV.d (DV.bool false), RV.d (DV.bool false)), (RV.d (DV.bool false), RV.d (DV.bool false)), (RV.d (DV.lst 4 (List.map chD (Plain.meetR (Plain.upF win) (unL (DV.lst (4) (List.map chD ours) false)) (unL (DV.lst (4) (List.map chD ours) false))).1) false), RV.d (DV.lst 4 [] false)), (RV.d (DV.int Go.IntKind.i64 (Plain.meetR (Plain.upF win) (unL (DV.lst (4) (List.map chD ours) false)) (unL (DV.lst (4) (List.map chD ours) false))).2), RV.d (DV.int Go.IntKind.i64 (0))), (RV.d (DV.bool true), RV.d (DV.bool true)), (RV.d (DV.bool false), RV.d (DV.bool false)), (RV.d (DV.bool false), RV.d (DV.bool false)), (RV.d (DV.bool false), RV.d (DV.bool false)), (RV.d (DV.lst 4 (List.map chD (Plain.meetR (Plain.upF win) [] (unL (DV.lst (4) (List.map chD ours) false))).1) false), RV.d (DV.lst 4 [] false)), (RV.d (DV.int Go.IntKind.i64 (Plain.meetR (Plain.upF win) [] (unL (DV.lst (4) (List.map chD ours) false))).2), RV.d (DV.int Go.IntKind.i64 (0))), (RV.d (DV.bool true), RV.d (DV.bool true)), (RV.d (DV.bool false), RV.d (DV.bool false)), (RV.d (DV.bool false), RV.d (DV.bool false)), (RV.d (DV.bool false), RV.d (DV.bool false)), (RV.d (DV.bool (e != 0)), RV.d (DV.bool true)), (RV.d (DV.bool true), RV.d (DV.bool true)), (RV.d (DV.bool true), RV.d (DV.bool true)), (RV.d (DV.bool (e == e)), RV.d (DV.bool true))] rfl (by kernel_rfl : runEnd (cfT tbB) true _ 1000 0 _ _ (ini 103 [.d (chL ours), .d (chL th), .d (.bool win)] []) = some (RV.d (DV.bool true), [], _, _)) (by refine ⟨?_, ?_, ?_, ?_, ?_, ?_, ?_, ?_, ?_, ?_, ?_, ?_, ?_, ?_, ?_, ?_, ?_, ?_, ?_, ?_, trivial⟩ <;> (first | rfl | exact i1 | exact i2 | exact k1 | exact k2)) (by refine ⟨?_, ?_, ?_, ?_, ?_, ?_, ?_, ?_, ?_, ?_, ?_, ?_, ?_, ?_, ?_, ?_, ?_, ?_, ?_, ?_, ?_, ?_, ?_, ?_, ?_, ?_, ?_, ?_, ?_, ?_, ?_, trivial⟩ <;> (first | exact q1 | exact q2 | exact q3 | exact v1 | exact v2 | exact v3 | exact v4 | exact w1 | exact w2 | exact w3 | exact w4 | exact w5 | exact w6 | exact w7 | exact y1 | exact y2 | exact le_bool rfl)) ⟨rfl, rfl⟩
end Go.Proofs.Ytljfolepmkcjlaa

/-
  A law's arguments as changes.
-/
namespace Go.Proofs.Ytljfolepmkcjlaa
open Go.RowKit Plain Am
set_option maxRecDepth 100000

theorem und_row : Try.prog.underlying 44 = some (.slice 49) := by kernel_rfl
theorem agg_val : isAggT Try.prog 49 = true := by kernel_rfl
theorem cells_val : Try.prog.cellsOf 49 = 3 := by kernel_rfl

theorem val_ty {xs : List DV} (h : Ty Try.prog 49 xs) : ∃ v, .agg xs = vD v ∧ v.wf := by
  have hu : ∃ fs, Try.prog.underlying 49 = some (.struct fs) ∧ (fs[0]?.map fun f => (f.type, f.offset)) = some (5, 0) ∧ (fs[1]?.map fun f => (f.type, f.offset)) = some (2, 1) ∧ (fs[2]?.map fun f => (f.type, f.offset)) = some (9, 2) :=
    ⟨_, Try.underlying49, rfl, rfl, rfl⟩
  obtain ⟨fs, hu, e0, e1, e2⟩ := hu
  obtain ⟨hl, hf⟩ := h.struct_inv hu
  rw [cells_val] at hl
  match xs, hl with
  | [a, b, c], _ =>
    simp only [Option.map_eq_some_iff, Prod.mk.injEq] at e0 e1 e2
    obtain ⟨f0, h0, t0, o0⟩ := e0
    obtain ⟨f1, h1, t1, o1⟩ := e1
    obtain ⟨f2, h2, t2, o2⟩ := e2
    have k0 := hf 0 f0 h0
    have k1 := hf 1 f1 h1
    have k2 := hf 2 f2 h2
    rw [t0, o0, (by kernel_rfl : Try.prog.cellsOf 5 = 1)] at k0
    rw [t1, o1, (by kernel_rfl : Try.prog.cellsOf 2 = 1)] at k1
    rw [t2, o2, (by kernel_rfl : Try.prog.cellsOf 9 = 1)] at k2
    obtain ⟨k, q0, w0⟩ := k0.int_inv (k := .u8) (by kernel_rfl)
    obtain ⟨n, q1, w1⟩ := k1.int_inv (k := .i64) (by kernel_rfl)
    obtain ⟨s, q2, _⟩ := k2.str_inv (by kernel_rfl)
    simp at q0 q1 q2
    subst q0 q1 q2
    refine ⟨⟨k, n, s⟩, rfl, ?_⟩
    simp [Lit.wf, IntKind.min, IntKind.max, IntKind.signed, IntKind.bits] at w0 w1
    exact ⟨w0.1, w0.2, w1.1, w1.2⟩

theorem row_ty {xs : List DV} (h : Ty Try.prog 44 xs) : ∃ l : List Val, xs = [.lst 3 (l.map vD) false] ∧ (∀ v ∈ l, v.wf) := by
  obtain ⟨els, rfl, _, he⟩ := h.lst_inv und_row
  rw [cells_val]
  have : ∀ els : List DV, (∀ x ∈ els, x = elOf (isAggT Try.prog 49) x.cells ∧ x.cells.length = Try.prog.cellsOf 49 ∧ Ty Try.prog 49 x.cells) → ∃ l : List Val, els = l.map vD ∧ ∀ v ∈ l, v.wf := by
    intro els
    induction els with
    | nil => intro _; exact ⟨[], rfl, by simp⟩
    | cons x r ih =>
      intro h
      obtain ⟨l, h1, h2⟩ := ih (fun y hy => h y (by simp [hy]))
      obtain ⟨g1, _, g3⟩ := h x (by simp)
      obtain ⟨v, v1, v2⟩ := val_ty g3
      rw [agg_val] at g1
      refine ⟨v :: l, by rw [g1, h1]; simp only [elOf, cond_true, v1, List.map_cons], fun u hu => ?_⟩
      rcases List.mem_cons.1 hu with rfl | hu
      · exact v2
      · exact h2 u hu
  obtain ⟨l, rfl, h2⟩ := this els he
  exact ⟨l, rfl, h2⟩

theorem und_chg : Try.prog.underlying 22 = some (.slice 46) := by kernel_rfl
theorem agg_chg : isAggT Try.prog 46 = true := by kernel_rfl
theorem cells_chg : Try.prog.cellsOf 46 = 4 := by kernel_rfl
theorem chg1_ty {xs : List DV} (h : Ty Try.prog 46 xs) : ∃ v : Chg, .agg xs = chD v ∧ v.wf := by
  have hu : ∃ fs, Try.prog.underlying 46 = some (.struct fs) ∧ (fs[0]?.map fun f => (f.type, f.offset)) = some (9, 0) ∧ (fs[1]?.map fun f => (f.type, f.offset)) = some (44, 1) ∧ (fs[2]?.map fun f => (f.type, f.offset)) = some (44, 2) ∧ (fs[3]?.map fun f => (f.type, f.offset)) = some (44, 3) :=
    ⟨_, Try.underlying46, rfl, rfl, rfl, rfl⟩
  obtain ⟨fs, hu, e0, e1, e2, e3⟩ := hu
  obtain ⟨hl, hf⟩ := h.struct_inv hu
  rw [cells_chg] at hl
  match xs, hl with
  | [a, b, c, d], _ =>
    simp only [Option.map_eq_some_iff, Prod.mk.injEq] at e0 e1 e2 e3
    obtain ⟨f0, h0, t0, o0⟩ := e0
    obtain ⟨f1, h1, t1, o1⟩ := e1
    obtain ⟨f2, h2, t2, o2⟩ := e2
    obtain ⟨f3, h3, t3, o3⟩ := e3
    have k0 := hf 0 f0 h0
    have k1 := hf 1 f1 h1
    have k2 := hf 2 f2 h2
    have k3 := hf 3 f3 h3
    rw [t0, o0, (by kernel_rfl : Try.prog.cellsOf 9 = 1)] at k0
    rw [t1, o1, (by kernel_rfl : Try.prog.cellsOf 44 = 1)] at k1
    rw [t2, o2, (by kernel_rfl : Try.prog.cellsOf 44 = 1)] at k2
    rw [t3, o3, (by kernel_rfl : Try.prog.cellsOf 44 = 1)] at k3
    obtain ⟨s, q0, _⟩ := k0.str_inv (by kernel_rfl)
    obtain ⟨l1, q1, w1⟩ := row_ty k1
    obtain ⟨l2, q2, w2⟩ := row_ty k2
    obtain ⟨l3, q3, w3⟩ := row_ty k3
    simp at q0 q1 q2 q3
    subst q0 q1 q2 q3
    exact ⟨⟨s, l1, l2, l3⟩, rfl, w1, w2, w3⟩
theorem chg_ty {xs : List DV} (h : Ty Try.prog 22 xs) : ∃ l : List Chg, xs = [chL l] ∧ l.length ≤ 9223372036854775807 ∧ ∀ x ∈ l, x.wf := by
  obtain ⟨els, rfl, hn, he⟩ := h.lst_inv und_chg
  rw [cells_chg]
  have : ∀ els : List DV, (∀ x ∈ els, x = elOf (isAggT Try.prog 46) x.cells ∧ x.cells.length = Try.prog.cellsOf 46 ∧ Ty Try.prog 46 x.cells) → ∃ l : List Chg, els = l.map chD ∧ ∀ x ∈ l, x.wf := by
    intro els
    induction els with
    | nil => intro _; exact ⟨[], rfl, by simp⟩
    | cons x r ih =>
      intro h
      obtain ⟨l, h1, h2⟩ := ih (fun y hy => h y (by simp [hy]))
      obtain ⟨g1, _, g3⟩ := h x (by simp)
      obtain ⟨v, v1, v2⟩ := chg1_ty g3
      rw [agg_chg] at g1
      exact ⟨v :: l, by rw [g1, h1]; simp only [elOf, cond_true, v1, List.map_cons], fun z hz => by
        rcases List.mem_cons.1 hz with rfl | hz
        · exact v2
        · exact h2 z hz⟩
  obtain ⟨l, rfl, hl⟩ := this els he
  refine ⟨l, rfl, ?_, hl⟩
  rw [List.length_map] at hn
  exact Nat.le_trans hn (by decide)
end Go.Proofs.Ytljfolepmkcjlaa
