/-
  Texts that the claim leans on, one behind the other, part 10.
-/
import Derived.Test.YtljfolepmkcjlaaXk9
import Derived.Test.YtljfolepmkcjlaaRows

/-
  The law ChangeBack, run.
-/
namespace Go.Proofs.Ytljfolepmkcjlaa
open Go.RowKit Plain Am IntWalk
set_option maxRecDepth 100000
set_option linter.unusedVariables false
set_option linter.unusedSimpArgs false

noncomputable abbrev lkC : Code := bodyOf Try.f8
def ct2E : Ent := fun a o => match a, o with
  | [.d (.str s)], [] => some (.tup [.d (chL (tkR (takeC s)).1), .d (.int .i64 (tkR (takeC s)).2)], [], [decide (s.length ≤ 2000000)])
  | _, _ => none
noncomputable def tkB : List (Nat × Ent) := [(20, e0 (some (.bool true, []))), (23, e1 grG2), (17, e1 ckG), (27, ptE), (21, ct2E), (26, mergE), (28, ivE), (19, cnE), (25, isE 51), (51, is1E)]
theorem part_ok2 {s : Bs} {r : List Val} {q : Bs} (h : partN s = some (r, q)) : (∀ v ∈ r, v.wf) ∧ r.length ≤ 65536 := by
  obtain ⟨_, p, w⟩ := partN_spec h
  have := (chkRow_zero (putRow_ok p).1).1
  exact ⟨w, by omega⟩
theorem chgN_ok2 {s : Bs} {c : Chg} {q : Bs} (h : chgN s = some (c, q)) : Chg.ok c := by
  unfold chgN at h
  split at h
  · cases h
  · rename_i t s1 h1
    split at h
    · cases h
    · rename_i k s2 h2
      split at h
      · cases h
      · rename_i o s3 h3
        split at h
        · cases h
        · rename_i n s4 h4
          split at h
          · split at h
            · injection h with h; injection h with e1 e2; subst e1; subst e2
              have a2 := part_ok2 h2
              have a3 := part_ok2 h3
              have a4 := part_ok2 h4
              exact ⟨⟨a2.1, a3.1, a4.1⟩, a2.2, a3.2, a4.2⟩
            · cases h
          · cases h
theorem chgsN_ok2 : ∀ {m : Nat} {s : Bs} {l : List Chg} {r : Bs}, chgsN m s = some (l, r) → ∀ c ∈ l, Chg.ok c
  | 0, s, l, r, h, c, hc => by simp only [chgsN, Option.some.injEq, Prod.mk.injEq] at h; rw [← h.1] at hc; simp at hc
  | m + 1, s, l, r, h, c, hc => by
    simp only [chgsN] at h
    split at h
    · cases h
    · rename_i x r1 hx
      cases hq : chgsN m r1 with
      | none => rw [hq] at h; cases h
      | some q =>
        rw [hq] at h
        simp only [Option.map_some, Option.some.injEq, Prod.mk.injEq] at h
        rw [← h.1] at hc
        rcases List.mem_cons.1 hc with rfl | hc
        · exact chgN_ok2 hx
        · exact chgsN_ok2 (l := q.1) (r := q.2) hq c hc
theorem takeC_ok2 {s : Bs} {l : List Chg} (h : takeC s = some l) : okL l := by
  by_cases hn : (takeN s).2.2 ≠ 0 ∨ (takeN s).1 > 1000
  · rw [takeC_bad hn] at h; cases h
  · cases hq : chgsN (takeN s).1 (s.drop (takeN s).2.1) with
    | none => rw [takeC_none hn hq] at h; cases h
    | some q =>
      rw [takeC_some hn (l := q.1) (r := q.2) hq] at h
      split at h
      · rename_i hh
        injection h with h
        subst h
        refine ⟨?_, chgsN_ok2 (l := q.1) (r := q.2) hq⟩
        have := hh.2
        simp only [mayL, Bool.and_eq_true, decide_eq_true_eq] at this
        omega
      · cases h
theorem putB_len : ∀ (q : List Chg), (∀ c ∈ q, mayC c = true) → (q.flatMap chgB).length ≤ 16036 * q.length
  | [], _ => by simp
  | c :: r, h => by
    rw [List.flatMap_cons, List.length_append, List.length_cons]
    have a1 := putB_len r (fun d hd => h d (by simp [hd]))
    have a2 := chgB_len (h c (by simp))
    omega
theorem ct2_ent : EntOk Try.prog 21 ct2E := by
  intro a o r o' c hg hc
  unfold ct2E at hg
  split at hg
  · rename_i s
    simp only [Option.some.injEq, Prod.mk.injEq] at hg
    obtain ⟨rfl, rfl, rfl⟩ := hg
    exact take_c s (of_decide_eq_true (hc (decide (s.length ≤ 2000000)) (by simp)))
  · cases hg
theorem tkB_ok : EntsOk Try.prog tkB := .cons works22_ent (.cons g2_ent (.cons ck_ent (.cons pt_ent (.cons ct2_ent (.cons merg_ent (.cons iv_ent (.cons (cn_ent Concat_c) (.cons is_ent (.cons is1_ent .nil)))))))))
set_option maxHeartbeats 4000000 in
theorem back_c (l : List Chg) (s : Bs) (ll : l.length ≤ 9223372036854775807) (wl : ∀ z ∈ l, z.wf) (ls : s.length ≤ 9223372036854775807) :
    C Try.prog 8 [.d (chL l), .d (.str s)] [] (fun r o => r = .d (.bool true) ∧ o = []) := by
  have ok := cfT_ok tkB_ok
  refine C_of_run (fn := Try.f8) (body := lkC) true (by kernel_rfl) (by kernel_rfl) (by kernel_rfl) ?_
  have ia := isLw_chL ll wl
  cases ga : great2 l with
  | true =>
    have q1 := ov_G2 ga
    exact WK.fin ok 1000 0 [(14, RV.d (DV.bool true)), (15, RV.d (DV.bool true)), (19, RV.d (DV.bool true)), (20, RV.d (DV.bool true)), (24, RV.d (DV.bool true))] [isLw (DV.lst 4 (List.map chD l) false)] [(RV.d (DV.bool (great2 (unL (chL l)))), RV.d (DV.bool true)), (RV.d (DV.bool true), RV.d (DV.bool true)), (RV.d (DV.bool true), RV.d (DV.bool true)), (RV.d (DV.bool true), RV.d (DV.bool true)), (RV.d (DV.bool true), RV.d (DV.bool true))] rfl (by kernel_rfl : runEnd (cfT tkB) true _ 1000 0 _ _ (ini 118 [.d (chL l), .d (.str s)] []) = some (RV.d (DV.bool true), [], _, _)) ⟨(by first | rfl | exact ia), trivial⟩ (by refine ⟨?_, ?_, ?_, ?_, ?_, trivial⟩ <;> (first | exact q1 | exact le_bool rfl)) ⟨rfl, rfl⟩
  | false =>
    have q1 := ov_G2 ga
    have ha := great2_no ga wl
    have ka := isL_chL ha
    have q2 : ∀ v : Bool, decide (100 < l.length) = v → RVle (.d (.bool (decide ((100 : Int) < (Nat.cast (R := Int) (l.map chD).length))))) (.d (.bool v)) := fun v h => le_bool (by
      rw [List.length_map, ← h]
      apply Bool.eq_iff_iff.2; simp only [decide_eq_true_eq]; omega)
    cases h4 : decide (100 < l.length) with
    | true =>
      have q2 := q2 _ h4
      exact WK.fin ok 1000 0 [(14, RV.d (DV.bool false)), (15, RV.d (DV.bool false)), (18, RV.d (DV.bool true)), (19, RV.d (DV.bool true)), (20, RV.d (DV.bool true)), (24, RV.d (DV.bool true))] [isLw (DV.lst 4 (List.map chD l) false)] [(RV.d (DV.bool (great2 (unL (chL l)))), RV.d (DV.bool false)), (RV.d (DV.bool false), RV.d (DV.bool false)), (RV.d (DV.bool (decide (100 < (Nat.cast (R := Int) (List.map chD l).length)))), RV.d (DV.bool true)), (RV.d (DV.bool true), RV.d (DV.bool true)), (RV.d (DV.bool true), RV.d (DV.bool true)), (RV.d (DV.bool true), RV.d (DV.bool true))] rfl (by kernel_rfl : runEnd (cfT tkB) true _ 1000 0 _ _ (ini 118 [.d (chL l), .d (.str s)] []) = some (RV.d (DV.bool true), [], _, _)) ⟨(by first | rfl | exact ia), trivial⟩ (by refine ⟨?_, ?_, ?_, ?_, ?_, ?_, trivial⟩ <;> (first | exact q1 | exact q2 | exact le_bool rfl)) ⟨rfl, rfl⟩
    | false =>
      have q2 := q2 _ h4
      have hle := of_decide_eq_false h4
      have q3 : ∀ v : Bool, decide (8192 < s.length) = v → RVle (.d (.bool (decide ((8192 : Int) < (Nat.cast (R := Int) (List.length s)))))) (.d (.bool v)) := fun v h => le_bool (by
        rw [← h]
        apply Bool.eq_iff_iff.2; simp only [decide_eq_true_eq]; omega)
      cases h5 : decide (8192 < s.length) with
      | true =>
        have q3 := q3 _ h5
        exact WK.fin ok 1000 0 [(14, RV.d (DV.bool false)), (15, RV.d (DV.bool false)), (18, RV.d (DV.bool false)), (19, RV.d (DV.bool false)), (20, RV.d (DV.bool false)), (23, RV.d (DV.bool true)), (24, RV.d (DV.bool true))] [isLw (DV.lst 4 (List.map chD l) false)] [(RV.d (DV.bool (great2 (unL (chL l)))), RV.d (DV.bool false)), (RV.d (DV.bool false), RV.d (DV.bool false)), (RV.d (DV.bool (decide (100 < (Nat.cast (R := Int) (List.map chD l).length)))), RV.d (DV.bool false)), (RV.d (DV.bool false), RV.d (DV.bool false)), (RV.d (DV.bool false), RV.d (DV.bool false)), (RV.d (DV.bool (decide (8192 < (Nat.cast (R := Int) (List.length s))))), RV.d (DV.bool true)), (RV.d (DV.bool true), RV.d (DV.bool true))] rfl (by kernel_rfl : runEnd (cfT tkB) true _ 1000 0 _ _ (ini 118 [.d (chL l), .d (.str s)] []) = some (RV.d (DV.bool true), [], _, _)) ⟨(by first | rfl | exact ia), trivial⟩ (by refine ⟨?_, ?_, ?_, ?_, ?_, ?_, ?_, trivial⟩ <;> (first | exact q1 | exact q2 | exact q3 | exact le_bool rfl)) ⟨rfl, rfl⟩
      | false =>
        have q3 := q3 _ h5
        have hls := of_decide_eq_false h5
        have ks : decide (List.length s ≤ 2000000) = true := decide_eq_true (by omega)
        cases hm : mayL l with
        | false =>
          have q4 : RVle (.d (.bool ((if mayL (unL (chL l)) = true then (0 : Int) else 2) == 0))) (.d (.bool false)) := le_bool (by rw [unL_chL, hm]; rfl)
          cases ht : takeC s with
          | none =>
            have t1 : RVle (.d (chL (tkR (takeC s)).1)) (.d (.lst 4 [] false)) := .of_eq (by rw [ht]; rfl)
            have t2 : RVle (.d (.int .i64 (tkR (takeC s)).2)) (.d (.int .i64 7)) := .of_eq (by rw [ht]; rfl)
            exact WK.fin ok 1000 0 [(14, RV.d (DV.bool false)), (15, RV.d (DV.bool false)), (18, RV.d (DV.bool false)), (19, RV.d (DV.bool false)), (20, RV.d (DV.bool false)), (23, RV.d (DV.bool false)), (24, RV.d (DV.bool false)), (27, RV.d (DV.bool false)), (95, RV.d (DV.lst 4 [] false)), (96, RV.d (DV.int Go.IntKind.i64 (7))), (98, RV.d (DV.bool true)), (101, RV.d (DV.bool true)), (102, RV.d (DV.bool true)), (104, RV.d (DV.bool true)), (105, RV.d (DV.bool true))] [isLw (DV.lst 4 (List.map chD l) false), isL (DV.lst 4 (List.map chD l) false), decide (List.length s ≤ 2000000)] [(RV.d (DV.bool (great2 (unL (chL l)))), RV.d (DV.bool false)), (RV.d (DV.bool false), RV.d (DV.bool false)), (RV.d (DV.bool (decide (100 < (Nat.cast (R := Int) (List.map chD l).length)))), RV.d (DV.bool false)), (RV.d (DV.bool false), RV.d (DV.bool false)), (RV.d (DV.bool false), RV.d (DV.bool false)), (RV.d (DV.bool (decide (8192 < (Nat.cast (R := Int) (List.length s))))), RV.d (DV.bool false)), (RV.d (DV.bool false), RV.d (DV.bool false)), (RV.d (DV.bool ((if Plain.mayL (unL (chL l)) = true then (0 : Int) else 2) == 0)), RV.d (DV.bool false)), (RV.d (DV.lst 4 (List.map chD (tkR (Plain.takeC s)).1) false), RV.d (DV.lst 4 [] false)), (RV.d (DV.int Go.IntKind.i64 (tkR (Plain.takeC s)).2), RV.d (DV.int Go.IntKind.i64 (7))), (RV.d (DV.bool true), RV.d (DV.bool true)), (RV.d (DV.bool true), RV.d (DV.bool true)), (RV.d (DV.bool true), RV.d (DV.bool true)), (RV.d (DV.bool true), RV.d (DV.bool true)), (RV.d (DV.bool true), RV.d (DV.bool true))] rfl (by kernel_rfl : runEnd (cfT tkB) true _ 1000 0 _ _ (ini 118 [.d (chL l), .d (.str s)] []) = some (RV.d (DV.bool true), [], _, _)) (by refine ⟨?_, ?_, ?_, trivial⟩ <;> (first | rfl | exact ia | exact ka | exact ks)) (by refine ⟨?_, ?_, ?_, ?_, ?_, ?_, ?_, ?_, ?_, ?_, ?_, ?_, ?_, ?_, ?_, trivial⟩ <;> (first | exact q1 | exact q2 | exact q3 | exact q4 | exact t1 | exact t2 | exact le_bool rfl)) ⟨rfl, rfl⟩
          | some M =>
            have kM := isL_chL (takeC_ok2 ht)
            have hp := put_take ht
            have t1 : RVle (.d (chL (tkR (takeC s)).1)) (.d (chL M)) := .of_eq (by rw [ht]; rfl)
            have t2 : RVle (.d (.int .i64 (tkR (takeC s)).2)) (.d (.int .i64 0)) := .of_eq (by rw [ht]; rfl)
            have t3 : RVle (.d (.str (putC (unL (chL M))).1)) (.d (.str s)) := .of_eq (by rw [unL_chL, hp])
            have t4 : RVle (.d (.int .i64 (putC (unL (chL M))).2)) (.d (.int .i64 0)) := .of_eq (by rw [unL_chL, hp])
            have t5 : RVle (.d (.bool (s == s))) (.d (.bool true)) := le_bool (by simp)
            exact WK.fin ok 1000 0 [(14, RV.d (DV.bool false)), (15, RV.d (DV.bool false)), (18, RV.d (DV.bool false)), (19, RV.d (DV.bool false)), (20, RV.d (DV.bool false)), (23, RV.d (DV.bool false)), (24, RV.d (DV.bool false)), (27, RV.d (DV.bool false)), (95, RV.d (DV.lst 4 (List.map chD M) false)), (96, RV.d (DV.int Go.IntKind.i64 (0))), (98, RV.d (DV.bool false)), (109, RV.d (DV.str s)), (110, RV.d (DV.int Go.IntKind.i64 (0))), (112, RV.d (DV.bool true)), (113, RV.d (DV.bool true)), (116, RV.d (DV.bool true)), (117, RV.d (DV.bool true))] [isLw (DV.lst 4 (List.map chD l) false), isL (DV.lst 4 (List.map chD l) false), decide (List.length s ≤ 2000000), isL (DV.lst 4 (List.map chD M) false)] [(RV.d (DV.bool (great2 (unL (chL l)))), RV.d (DV.bool false)), (RV.d (DV.bool false), RV.d (DV.bool false)), (RV.d (DV.bool (decide (100 < (Nat.cast (R := Int) (List.map chD l).length)))), RV.d (DV.bool false)), (RV.d (DV.bool false), RV.d (DV.bool false)), (RV.d (DV.bool false), RV.d (DV.bool false)), (RV.d (DV.bool (decide (8192 < (Nat.cast (R := Int) (List.length s))))), RV.d (DV.bool false)), (RV.d (DV.bool false), RV.d (DV.bool false)), (RV.d (DV.bool ((if Plain.mayL (unL (chL l)) = true then (0 : Int) else 2) == 0)), RV.d (DV.bool false)), (RV.d (DV.lst 4 (List.map chD (tkR (Plain.takeC s)).1) false), RV.d (DV.lst 4 (List.map chD M) false)), (RV.d (DV.int Go.IntKind.i64 (tkR (Plain.takeC s)).2), RV.d (DV.int Go.IntKind.i64 (0))), (RV.d (DV.bool false), RV.d (DV.bool false)), (RV.d (DV.str (Plain.putC (unL (chL M))).1), RV.d (DV.str s)), (RV.d (DV.int Go.IntKind.i64 (Plain.putC (unL (chL M))).2), RV.d (DV.int Go.IntKind.i64 (0))), (RV.d (DV.bool true), RV.d (DV.bool true)), (RV.d (DV.bool true), RV.d (DV.bool true)), (RV.d (DV.bool (s == s)), RV.d (DV.bool true)), (RV.d (DV.bool true), RV.d (DV.bool true))] rfl (by kernel_rfl : runEnd (cfT tkB) true _ 1000 0 _ _ (ini 118 [.d (chL l), .d (.str s)] []) = some (RV.d (DV.bool true), [], _, _)) (by refine ⟨?_, ?_, ?_, ?_, trivial⟩ <;> (first | rfl | exact ia | exact ka | exact ks | exact kM)) (by refine ⟨?_, ?_, ?_, ?_, ?_, ?_, ?_, ?_, ?_, ?_, ?_, ?_, ?_, ?_, ?_, ?_, ?_, trivial⟩ <;> (first | exact q1 | exact q2 | exact q3 | exact q4 | exact t1 | exact t2 | exact t3 | exact t4 | exact t5 | exact le_bool rfl)) ⟨rfl, rfl⟩
        | true =>
          have q4 : RVle (.d (.bool ((if mayL (unL (chL l)) = true then (0 : Int) else 2) == 0))) (.d (.bool true)) := le_bool (by rw [unL_chL, hm]; rfl)
          have hs : Set' l := ⟨hm, wl⟩
          obtain ⟨mal, _⟩ := mayL_all hm
          obtain ⟨p, hp⟩ : ∃ p, putB l = p := ⟨_, rfl⟩
          have hpc : putC l = (p, 0) := by unfold putC; rw [if_pos hm, hp]
          have htp : takeC p = some l := by rw [← hp]; exact take_put hs
          have kp : decide (List.length p ≤ 2000000) = true := decide_eq_true (by
            have h1 := putB_len l mal
            have h2 := putN_length_le l.length
            rw [← hp]; unfold putB; rw [List.length_append]; omega)
          have c0 := merge_self hs
          obtain ⟨c1, c2⟩ := invert_law hs
          have c3 := contrary_law hs
          have c4 := contrary_law2 hs
          obtain ⟨m, em⟩ : ∃ m, l.map invC = m := ⟨_, rfl⟩
          have km : isL (chL m) = true := by rw [← em]; exact isL_chL (okL_inv ha)
          rw [em] at c1 c2 c3 c4
          have kma : (unL (chL l)).all mayC = true := by rw [unL_chL, List.all_eq_true]; exact mal
          have kle : decide ((unL (chL l)).length ≤ 10000) = true := decide_eq_true (by rw [unL_chL]; omega)
          have v1 : RVle (.d (.str (putC (unL (chL l))).1)) (.d (.str p)) := .of_eq (by rw [unL_chL, hpc])
          have v2 : RVle (.d (.int .i64 (putC (unL (chL l))).2)) (.d (.int .i64 0)) := .of_eq (by rw [unL_chL, hpc])
          have v3 : RVle (.d (chL (tkR (takeC p)).1)) (.d (chL l)) := .of_eq (by rw [htp]; rfl)
          have v4 : RVle (.d (.int .i64 (tkR (takeC p)).2)) (.d (.int .i64 0)) := .of_eq (by rw [htp]; rfl)
          have v5 : RVle (.d (chL (mergeC (unL (chL l))).1)) (.d (chL l)) := .of_eq (by rw [unL_chL, c0])
          have v6 : RVle (.d (.int .i64 (mergeC (unL (chL l))).2)) (.d (.int .i64 0)) := .of_eq (by rw [unL_chL, c0])
          have v7 : RVle (.d (chL (invertC (unL (chL l))).1)) (.d (chL m)) := .of_eq (by rw [unL_chL, c1])
          have v8 : RVle (.d (.int .i64 (invertC (unL (chL l))).2)) (.d (.int .i64 0)) := .of_eq (by rw [unL_chL, c1])
          have v9 : RVle (.d (chL (invertC (unL (chL m))).1)) (.d (chL l)) := .of_eq (by rw [unL_chL, c2])
          have w1 : RVle (.d (.int .i64 (invertC (unL (chL m))).2)) (.d (.int .i64 0)) := .of_eq (by rw [unL_chL, c2])
          have w2 : RVle (.d (chL (concatC (unL (chL l)) (unL (chL m))).1)) (.d (.lst 4 [] false)) := .of_eq (by rw [unL_chL, unL_chL, c3]; rfl)
          have w3 : RVle (.d (.int .i64 (concatC (unL (chL l)) (unL (chL m))).2)) (.d (.int .i64 0)) := .of_eq (by rw [unL_chL, unL_chL, c3])
          have w4 : RVle (.d (chL (concatC (unL (chL m)) (unL (chL l))).1)) (.d (.lst 4 [] false)) := .of_eq (by rw [unL_chL, unL_chL, c4]; rfl)
          have w5 : RVle (.d (.int .i64 (concatC (unL (chL m)) (unL (chL l))).2)) (.d (.int .i64 0)) := .of_eq (by rw [unL_chL, unL_chL, c4])
          have w6 : RVle (.d (.bool (true && decide (unL (chL l) = unL (.lst 4 (l.map chD) false))))) (.d (.bool true)) := le_bool (by show (true && decide (unL (chL l) = unL (chL l))) = true; simp)
          cases ht : takeC s with
          | none =>
            have t1 : RVle (.d (chL (tkR (takeC s)).1)) (.d (.lst 4 [] false)) := .of_eq (by rw [ht]; rfl)
            have t2 : RVle (.d (.int .i64 (tkR (takeC s)).2)) (.d (.int .i64 7)) := .of_eq (by rw [ht]; rfl)
            exact WK.fin ok 1000 0 [(14, RV.d (DV.bool false)), (15, RV.d (DV.bool false)), (18, RV.d (DV.bool false)), (19, RV.d (DV.bool false)), (20, RV.d (DV.bool false)), (23, RV.d (DV.bool false)), (24, RV.d (DV.bool false)), (27, RV.d (DV.bool true)), (31, RV.d (DV.str p)), (32, RV.d (DV.int Go.IntKind.i64 (0))), (34, RV.d (DV.bool false)), (35, RV.d (DV.bool false)), (40, RV.d (DV.lst 4 (List.map chD l) false)), (41, RV.d (DV.int Go.IntKind.i64 (0))), (42, RV.d (DV.bool true)), (43, RV.d (DV.bool false)), (44, RV.d (DV.bool false)), (45, RV.d (DV.bool false)), (50, RV.d (DV.lst 4 (List.map chD l) false)), (51, RV.d (DV.int Go.IntKind.i64 (0))), (52, RV.d (DV.bool true)), (53, RV.d (DV.bool false)), (54, RV.d (DV.bool false)), (58, RV.d (DV.lst 4 (List.map chD m) false)), (59, RV.d (DV.int Go.IntKind.i64 (0))), (61, RV.d (DV.bool false)), (62, RV.d (DV.bool false)), (67, RV.d (DV.lst 4 (List.map chD l) false)), (68, RV.d (DV.int Go.IntKind.i64 (0))), (69, RV.d (DV.bool true)), (70, RV.d (DV.bool false)), (71, RV.d (DV.bool false)), (72, RV.d (DV.bool false)), (77, RV.d (DV.lst 4 [] false)), (78, RV.d (DV.int Go.IntKind.i64 (0))), (79, RV.d (DV.bool true)), (80, RV.d (DV.bool false)), (81, RV.d (DV.bool false)), (82, RV.d (DV.bool false)), (87, RV.d (DV.lst 4 [] false)), (88, RV.d (DV.int Go.IntKind.i64 (0))), (89, RV.d (DV.bool true)), (90, RV.d (DV.bool false)), (91, RV.d (DV.bool false)), (95, RV.d (DV.lst 4 [] false)), (96, RV.d (DV.int Go.IntKind.i64 (7))), (98, RV.d (DV.bool true)), (101, RV.d (DV.bool true)), (102, RV.d (DV.bool true)), (104, RV.d (DV.bool true)), (105, RV.d (DV.bool true))] [isLw (DV.lst 4 (List.map chD l) false), isL (DV.lst 4 (List.map chD l) false), isL (DV.lst 4 (List.map chD l) false), decide (List.length p ≤ 2000000), true, isL (DV.lst 4 (List.map chD l) false), isL (DV.lst 4 (List.map chD l) false), isL (DV.lst 4 (List.map chD l) false), (unL (chL l)).all Plain.mayC, decide ((unL (chL l)).length ≤ 10000), true, isL (DV.lst 4 (List.map chD l) false), isL (DV.lst 4 (List.map chD l) false), isL (DV.lst 4 (List.map chD l) false), isL (DV.lst 4 (List.map chD m) false), true, isL (DV.lst 4 (List.map chD l) false), isL (DV.lst 4 (List.map chD l) false), isL (DV.lst 4 (List.map chD l) false), isL (DV.lst 4 (List.map chD m) false), true, true, true, isL (DV.lst 4 (List.map chD m) false), isL (DV.lst 4 (List.map chD l) false), true, true, true, decide (List.length s ≤ 2000000)] [(RV.d (DV.bool (great2 (unL (chL l)))), RV.d (DV.bool false)), (RV.d (DV.bool false), RV.d (DV.bool false)), (RV.d (DV.bool (decide (100 < (Nat.cast (R := Int) (List.map chD l).length)))), RV.d (DV.bool false)), (RV.d (DV.bool false), RV.d (DV.bool false)), (RV.d (DV.bool false), RV.d (DV.bool false)), (RV.d (DV.bool (decide (8192 < (Nat.cast (R := Int) (List.length s))))), RV.d (DV.bool false)), (RV.d (DV.bool false), RV.d (DV.bool false)), (RV.d (DV.bool ((if Plain.mayL (unL (chL l)) = true then (0 : Int) else 2) == 0)), RV.d (DV.bool true)), (RV.d (DV.str (Plain.putC (unL (chL l))).1), RV.d (DV.str p)), (RV.d (DV.int Go.IntKind.i64 (Plain.putC (unL (chL l))).2), RV.d (DV.int Go.IntKind.i64 (0))), (RV.d (DV.bool false), RV.d (DV.bool false)), (RV.d (DV.bool false), RV.d (DV.bool false)), (RV.d (DV.lst 4 (List.map chD (tkR (Plain.takeC p)).1) false), RV.d (DV.lst 4 (List.map chD l) false)), (RV.d (DV.int Go.IntKind.i64 (tkR (Plain.takeC p)).2), RV.d (DV.int Go.IntKind.i64 (0))), (RV.d (DV.bool (true && decide (unL (chL l) = unL (DV.lst (4) (List.map chD l) false)))), RV.d (DV.bool true)), (RV.d (DV.bool false), RV.d (DV.bool false)), (RV.d (DV.bool false), RV.d (DV.bool false)), (RV.d (DV.bool false), RV.d (DV.bool false)), (RV.d (DV.lst 4 (List.map chD (Plain.mergeC (unL (chL l))).1) false), RV.d (DV.lst 4 (List.map chD l) false)), (RV.d (DV.int Go.IntKind.i64 (Plain.mergeC (unL (chL l))).2), RV.d (DV.int Go.IntKind.i64 (0))), (RV.d (DV.bool (true && decide (unL (chL l) = unL (DV.lst (4) (List.map chD l) false)))), RV.d (DV.bool true)), (RV.d (DV.bool false), RV.d (DV.bool false)), (RV.d (DV.bool false), RV.d (DV.bool false)), (RV.d (DV.lst 4 (List.map chD (Plain.invertC (unL (chL l))).1) false), RV.d (DV.lst 4 (List.map chD m) false)), (RV.d (DV.int Go.IntKind.i64 (Plain.invertC (unL (chL l))).2), RV.d (DV.int Go.IntKind.i64 (0))), (RV.d (DV.bool false), RV.d (DV.bool false)), (RV.d (DV.bool false), RV.d (DV.bool false)), (RV.d (DV.lst 4 (List.map chD (Plain.invertC (unL (chL m))).1) false), RV.d (DV.lst 4 (List.map chD l) false)), (RV.d (DV.int Go.IntKind.i64 (Plain.invertC (unL (chL m))).2), RV.d (DV.int Go.IntKind.i64 (0))), (RV.d (DV.bool (true && decide (unL (chL l) = unL (DV.lst (4) (List.map chD l) false)))), RV.d (DV.bool true)), (RV.d (DV.bool false), RV.d (DV.bool false)), (RV.d (DV.bool false), RV.d (DV.bool false)), (RV.d (DV.bool false), RV.d (DV.bool false)), (RV.d (DV.lst 4 (List.map chD (Plain.concatC (unL (chL l)) (unL (chL m))).1) false), RV.d (DV.lst 4 [] false)), (RV.d (DV.int Go.IntKind.i64 (Plain.concatC (unL (chL l)) (unL (chL m))).2), RV.d (DV.int Go.IntKind.i64 (0))), (RV.d (DV.bool true), RV.d (DV.bool true)), (RV.d (DV.bool false), RV.d (DV.bool false)), (RV.d (DV.bool false), RV.d (DV.bool false)), (RV.d (DV.bool false), RV.d (DV.bool false)), (RV.d (DV.lst 4 (List.map chD (Plain.concatC (unL (chL m)) (unL (chL l))).1) false), RV.d (DV.lst 4 [] false)), (RV.d (DV.int Go.IntKind.i64 (Plain.concatC (unL (chL m)) (unL (chL l))).2), RV.d (DV.int Go.IntKind.i64 (0))), (RV.d (DV.bool true), RV.d (DV.bool true)), (RV.d (DV.bool false), RV.d (DV.bool false)), (RV.d (DV.bool false), RV.d (DV.bool false)), (RV.d (DV.lst 4 (List.map chD (tkR (Plain.takeC s)).1) false), RV.d (DV.lst 4 [] false)), (RV.d (DV.int Go.IntKind.i64 (tkR (Plain.takeC s)).2), RV.d (DV.int Go.IntKind.i64 (7))), (RV.d (DV.bool true), RV.d (DV.bool true)), (RV.d (DV.bool true), RV.d (DV.bool true)), (RV.d (DV.bool true), RV.d (DV.bool true)), (RV.d (DV.bool true), RV.d (DV.bool true)), (RV.d (DV.bool true), RV.d (DV.bool true))] rfl (by kernel_rfl : runEnd (cfT tkB) true _ 1000 0 _ _ (ini 118 [.d (chL l), .d (.str s)] []) = some (RV.d (DV.bool true), [], _, _)) (by refine ⟨?_, ?_, ?_, ?_, ?_, ?_, ?_, ?_, ?_, ?_, ?_, ?_, ?_, ?_, ?_, ?_, ?_, ?_, ?_, ?_, ?_, ?_, ?_, ?_, ?_, ?_, ?_, ?_, ?_, trivial⟩ <;> (first | rfl | exact ia | exact ka | exact ks | exact kp | exact km | exact kma | exact kle)) (by refine ⟨?_, ?_, ?_, ?_, ?_, ?_, ?_, ?_, ?_, ?_, ?_, ?_, ?_, ?_, ?_, ?_, ?_, ?_, ?_, ?_, ?_, ?_, ?_, ?_, ?_, ?_, ?_, ?_, ?_, ?_, ?_, ?_, ?_, ?_, ?_, ?_, ?_, ?_, ?_, ?_, ?_, ?_, ?_, ?_, ?_, ?_, ?_, ?_, ?_, ?_, ?_, trivial⟩ <;> (first | exact q1 | exact q2 | exact q3 | exact q4 | exact t1 | exact t2 | exact v1 | exact v2 | exact v3 | exact v4 | exact v5 | exact v6 | exact v7 | exact v8 | exact v9 | exact w1 | exact w2 | exact w3 | exact w4 | exact w5 | exact w6 | exact le_bool rfl)) ⟨rfl, rfl⟩
          | some M =>
            have kM := isL_chL (takeC_ok2 ht)
            have hp := put_take ht
            have t1 : RVle (.d (chL (tkR (takeC s)).1)) (.d (chL M)) := .of_eq (by rw [ht]; rfl)
            have t2 : RVle (.d (.int .i64 (tkR (takeC s)).2)) (.d (.int .i64 0)) := .of_eq (by rw [ht]; rfl)
            have t3 : RVle (.d (.str (putC (unL (chL M))).1)) (.d (.str s)) := .of_eq (by rw [unL_chL, hp])
            have t4 : RVle (.d (.int .i64 (putC (unL (chL M))).2)) (.d (.int .i64 0)) := .of_eq (by rw [unL_chL, hp])
            have t5 : RVle (.d (.bool (s == s))) (.d (.bool true)) := le_bool (by simp)
            exact WK.fin ok 1000 0 [(14, RV.d (DV.bool false)), (15, RV.d (DV.bool false)), (18, RV.d (DV.bool false)), (19, RV.d (DV.bool false)), (20, RV.d (DV.bool false)), (23, RV.d (DV.bool false)), (24, RV.d (DV.bool false)), (27, RV.d (DV.bool true)), (31, RV.d (DV.str p)), (32, RV.d (DV.int Go.IntKind.i64 (0))), (34, RV.d (DV.bool false)), (35, RV.d (DV.bool false)), (40, RV.d (DV.lst 4 (List.map chD l) false)), (41, RV.d (DV.int Go.IntKind.i64 (0))), (42, RV.d (DV.bool true)), (43, RV.d (DV.bool false)), (44, RV.d (DV.bool false)), (45, RV.d (DV.bool false)), (50, RV.d (DV.lst 4 (List.map chD l) false)), (51, RV.d (DV.int Go.IntKind.i64 (0))), (52, RV.d (DV.bool true)), (53, RV.d (DV.bool false)), (54, RV.d (DV.bool false)), (58, RV.d (DV.lst 4 (List.map chD m) false)), (59, RV.d (DV.int Go.IntKind.i64 (0))), (61, RV.d (DV.bool false)), (62, RV.d (DV.bool false)), (67, RV.d (DV.lst 4 (List.map chD l) false)), (68, RV.d (DV.int Go.IntKind.i64 (0))), (69, RV.d (DV.bool true)), (70, RV.d (DV.bool false)), (71, RV.d (DV.bool false)), (72, RV.d (DV.bool false)), (77, RV.d (DV.lst 4 [] false)), (78, RV.d (DV.int Go.IntKind.i64 (0))), (79, RV.d (DV.bool true)), (80, RV.d (DV.bool false)), (81, RV.d (DV.bool false)), (82, RV.d (DV.bool false)), (87, RV.d (DV.lst 4 [] false)), (88, RV.d (DV.int Go.IntKind.i64 (0))), (89, RV.d (DV.bool true)), (90, RV.d (DV.bool false)), (91, RV.d (DV.bool false)), (95, RV.d (DV.lst 4 (List.map chD M) false)), (96, RV.d (DV.int Go.IntKind.i64 (0))), (98, RV.d (DV.bool false)), (109, RV.d (DV.str s)), (110, RV.d (DV.int Go.IntKind.i64 (0))), (112, RV.d (DV.bool true)), (113, RV.d (DV.bool true)), (116, RV.d (DV.bool true)), (117, RV.d (DV.bool true))] [isLw (DV.lst 4 (List.map chD l) false), isL (DV.lst 4 (List.map chD l) false), isL (DV.lst 4 (List.map chD l) false), decide (List.length p ≤ 2000000), true, isL (DV.lst 4 (List.map chD l) false), isL (DV.lst 4 (List.map chD l) false), isL (DV.lst 4 (List.map chD l) false), (unL (chL l)).all Plain.mayC, decide ((unL (chL l)).length ≤ 10000), true, isL (DV.lst 4 (List.map chD l) false), isL (DV.lst 4 (List.map chD l) false), isL (DV.lst 4 (List.map chD l) false), isL (DV.lst 4 (List.map chD m) false), true, isL (DV.lst 4 (List.map chD l) false), isL (DV.lst 4 (List.map chD l) false), isL (DV.lst 4 (List.map chD l) false), isL (DV.lst 4 (List.map chD m) false), true, true, true, isL (DV.lst 4 (List.map chD m) false), isL (DV.lst 4 (List.map chD l) false), true, true, true, decide (List.length s ≤ 2000000), isL (DV.lst 4 (List.map chD M) false)] [(RV.d (DV.bool (great2 (unL (chL l)))), RV.d (DV.bool false)), (RV.d (DV.bool false), RV.d (DV.bool false)), (RV.d (DV.bool (decide (100 < (Nat.cast (R := Int) (List.map chD l).length)))), RV.d (DV.bool false)), (RV.d (DV.bool false), RV.d (DV.bool false)), (RV.d (DV.bool false), RV.d (DV.bool false)), (RV.d (DV.bool (decide (8192 < (Nat.cast (R := Int) (List.length s))))), RV.d (DV.bool false)), (RV.d (DV.bool false), RV.d (DV.bool false)), (RV.d (DV.bool ((if Plain.mayL (unL (chL l)) = true then (0 : Int) else 2) == 0)), RV.d (DV.bool true)), (RV.d (DV.str (Plain.putC (unL (chL l))).1), RV.d (DV.str p)), (RV.d (DV.int Go.IntKind.i64 (Plain.putC (unL (chL l))).2), RV.d (DV.int Go.IntKind.i64 (0))), (RV.d (DV.bool false), RV.d (DV.bool false)), (RV.d (DV.bool false), RV.d (DV.bool false)), (RV.d (DV.lst 4 (List.map chD (tkR (Plain.takeC p)).1) false), RV.d (DV.lst 4 (List.map chD l) false)), (RV.d (DV.int Go.IntKind.i64 (tkR (Plain.takeC p)).2), RV.d (DV.int Go.IntKind.i64 (0))), (RV.d (DV.bool (true && decide (unL (chL l) = unL (DV.lst (4) (List.map chD l) false)))), RV.d (DV.bool true)), (RV.d (DV.bool false), RV.d (DV.bool false)), (RV.d (DV.bool false), RV.d (DV.bool false)), (RV.d (DV.bool false), RV.d (DV.bool false)), (RV.d (DV.lst 4 (List.map chD (Plain.mergeC (unL (chL l))).1) false), RV.d (DV.lst 4 (List.map chD l) false)), (RV.d (DV.int Go.IntKind.i64 (Plain.mergeC (unL (chL l))).2), RV.d (DV.int Go.IntKind.i64 (0))), (RV.d (DV.bool (true && decide (unL (chL l) = unL (DV.lst (4) (List.map chD l) false)))), RV.d (DV.bool true)), (RV.d (DV.bool false), RV.d (DV.bool false)), (RV.d (DV.bool false), RV.d (DV.bool false)), (RV.d (DV.lst 4 (List.map chD (Plain.invertC (unL (chL l))).1) false), RV.d (DV.lst 4 (List.map chD m) false)), (RV.d (DV.int Go.IntKind.i64 (Plain.invertC (unL (chL l))).2), RV.d (DV.int Go.IntKind.i64 (0))), (RV.d (DV.bool false), RV.d (DV.bool false)), (RV.d (DV.bool false), RV.d (DV.bool false)), (RV.d (DV.lst 4 (List.map chD (Plain.invertC (unL (chL m))).1) false), RV.d (DV.lst 4 (List.map chD l) false)), (RV.d (DV.int Go.IntKind.i64 (Plain.invertC (unL (chL m))).2), RV.d (DV.int Go.IntKind.i64 (0))), (RV.d (DV.bool (true && decide (unL (chL l) = unL (DV.lst (4) (List.map chD l) false)))), RV.d (DV.bool true)), (RV.d (DV.bool false), RV.d (DV.bool false)), (RV.d (DV.bool false), RV.d (DV.bool false)), (RV.d (DV.bool false), RV.d (DV.bool false)), (RV.d (DV.lst 4 (List.map chD (Plain.concatC (unL (chL l)) (unL (chL m))).1) false), RV.d (DV.lst 4 [] false)), (RV.d (DV.int Go.IntKind.i64 (Plain.concatC (unL (chL l)) (unL (chL m))).2), RV.d (DV.int Go.IntKind.i64 (0))), (RV.d (DV.bool true), RV.d (DV.bool true)), (RV.d (DV.bool false), RV.d (DV.bool false)), (RV.d (DV.bool false), RV.d (DV.bool false)), (RV.d (DV.bool false), RV.d (DV.bool false)), (RV.d (DV.lst 4 (List.map chD (Plain.concatC (unL (chL m)) (unL (chL l))).1) false), RV.d (DV.lst 4 [] false)), (RV.d (DV.int Go.IntKind.i64 (Plain.concatC (unL (chL m)) (unL (chL l))).2), RV.d (DV.int Go.IntKind.i64 (0))), (RV.d (DV.bool true), RV.d (DV.bool true)), (RV.d (DV.bool false), RV.d (DV.bool false)), (RV.d (DV.bool false), RV.d (DV.bool false)), (RV.d (DV.lst 4 (List.map chD (tkR (Plain.takeC s)).1) false), RV.d (DV.lst 4 (List.map chD M) false)), (RV.d (DV.int Go.IntKind.i64 (tkR (Plain.takeC s)).2), RV.d (DV.int Go.IntKind.i64 (0))), (RV.d (DV.bool false), RV.d (DV.bool false)), (RV.d (DV.str (Plain.putC (unL (chL M))).1), RV.d (DV.str s)), (RV.d (DV.int Go.IntKind.i64 (Plain.putC (unL (chL M))).2), RV.d (DV.int Go.IntKind.i64 (0))), (RV.d (DV.bool true), RV.d (DV.bool true)), (RV.d (DV.bool true), RV.d (DV.bool true)), (RV.d (DV.bool (s == s)), RV.d (DV.bool true)), (RV.d (DV.bool true), RV.d (DV.bool true))] rfl (by kernel_rfl : runEnd (cfT tkB) true _ 1000 0 _ _ (ini 118 [.d (chL l), .d (.str s)] []) = some (RV.d (DV.bool true), [], _, _)) (by refine ⟨?_, ?_, ?_, ?_, ?_, ?_, ?_, ?_, ?_, ?_, ?_, ?_, ?_, ?_, ?_, ?_, ?_, ?_, ?_, ?_, ?_, ?_, ?_, ?_, ?_, ?_, ?_, ?_, ?_, ?_, trivial⟩ <;> (first | rfl | exact ia | exact ka | exact ks | exact kp | exact km | exact kma | exact kle | exact kM)) (by refine ⟨?_, ?_, ?_, ?_, ?_, ?_, ?_, ?_, ?_, ?_, ?_, ?_, ?_, ?_, ?_, ?_, ?_, ?_, ?_, ?_, ?_, ?_, ?_, ?_, ?_, ?_, ?_, ?_, ?_, ?_, ?_, ?_, ?_, ?_, ?_, ?_, ?_, ?_, ?_, ?_, ?_, ?_, ?_, ?_, ?_, ?_, ?_, ?_, ?_, ?_, ?_, ?_, ?_, trivial⟩ <;> (first | exact q1 | exact q2 | exact q3 | exact q4 | exact t1 | exact t2 | exact t3 | exact t4 | exact t5 | exact v1 | exact v2 | exact v3 | exact v4 | exact v5 | exact v6 | exact v7 | exact v8 | exact v9 | exact w1 | exact w2 | exact w3 | exact w4 | exact w5 | exact w6 | exact le_bool rfl)) ⟨rfl, rfl⟩
end Go.Proofs.Ytljfolepmkcjlaa

/-
  A law's arguments as changes.
-/
namespace Go.Proofs.Ytljfolepmkcjlaa
open Go.RowKit Plain Am
set_option maxRecDepth 100000

theorem und_row : Try.prog.underlying 44 = some (.slice 49) := by kernel_rfl
theorem agg_val : isAggT Try.prog 49 = true := by kernel_rfl
theorem cells_val : Try.prog.cellsOf 49 = 3 := by kernel_rfl

theorem val_ty {xs : List DV} (h : Ty Try.prog 49 xs) : ∃ v, .agg xs = vD v ∧ v.wf := by
  have hu : ∃ fs, Try.prog.underlying 49 = some (.struct fs) ∧ (fs[0]?.map fun f => (f.type, f.offset)) = some (5, 0) ∧ (fs[1]?.map fun f => (f.type, f.offset)) = some (2, 1) ∧ (fs[2]?.map fun f => (f.type, f.offset)) = some (9, 2) :=
    ⟨_, Try.underlying49, rfl, rfl, rfl⟩
  obtain ⟨fs, hu, e0, e1, e2⟩ := hu
  obtain ⟨hl, hf⟩ := h.struct_inv hu
  rw [cells_val] at hl
  match xs, hl with
  | [a, b, c], _ =>
    simp only [Option.map_eq_some_iff, Prod.mk.injEq] at e0 e1 e2
    obtain ⟨f0, h0, t0, o0⟩ := e0
    obtain ⟨f1, h1, t1, o1⟩ := e1
    obtain ⟨f2, h2, t2, o2⟩ := e2
    have k0 := hf 0 f0 h0
    have k1 := hf 1 f1 h1
    have k2 := hf 2 f2 h2
    rw [t0, o0, (by kernel_rfl : Try.prog.cellsOf 5 = 1)] at k0
    rw [t1, o1, (by kernel_rfl : Try.prog.cellsOf 2 = 1)] at k1
    rw [t2, o2, (by kernel_rfl : Try.prog.cellsOf 9 = 1)] at k2
    obtain ⟨k, q0, w0⟩ := k0.int_inv (k := .u8) (by kernel_rfl)
    obtain ⟨n, q1, w1⟩ := k1.int_inv (k := .i64) (by kernel_rfl)
    obtain ⟨s, q2, _⟩ := k2.str_inv (by kernel_rfl)
    simp at q0 q1 q2
    subst q0 q1 q2
    refine ⟨⟨k, n, s⟩, rfl, ?_⟩
    simp [Lit.wf, IntKind.min, IntKind.max, IntKind.signed, IntKind.bits] at w0 w1
    exact ⟨w0.1, w0.2, w1.1, w1.2⟩

theorem row_ty {xs : List DV} (h : Ty Try.prog 44 xs) : ∃ l : List Val, xs = [.lst 3 (l.map vD) false] ∧ (∀ v ∈ l, v.wf) := by
  obtain ⟨els, rfl, _, he⟩ := h.lst_inv und_row
  rw [cells_val]
  have : ∀ els : List DV, (∀ x ∈ els, x = elOf (isAggT Try.prog 49) x.cells ∧ x.cells.length = Try.prog.cellsOf 49 ∧ Ty Try.prog 49 x.cells) → ∃ l : List Val, els = l.map vD ∧ ∀ v ∈ l, v.wf := by
    intro els
    induction els with
    | nil => intro _; exact ⟨[], rfl, by simp⟩
    | cons x r ih =>
      intro h
      obtain ⟨l, h1, h2⟩ := ih (fun y hy => h y (by simp [hy]))
      obtain ⟨g1, _, g3⟩ := h x (by simp)
      obtain ⟨v, v1, v2⟩ := val_ty g3
      rw [agg_val] at g1
      refine ⟨v :: l, by rw [g1, h1]; simp only [elOf, cond_true, v1, List.map_cons], fun u hu => ?_⟩
      rcases List.mem_cons.1 hu with rfl | hu
      · exact v2
      · exact h2 u hu
  obtain ⟨l, rfl, h2⟩ := this els he
  exact ⟨l, rfl, h2⟩

theorem und_chg : Try.prog.underlying 22 = some (.slice 46) := by kernel_rfl
theorem agg_chg : isAggT Try.prog 46 = true := by kernel_rfl
theorem cells_chg : Try.prog.cellsOf 46 = 4 := by kernel_rfl
theorem chg1_ty {xs : List DV} (h : Ty Try.prog 46 xs) : ∃ v : Chg, .agg xs = chD v ∧ v.wf := by
  have hu : ∃ fs, Try.prog.underlying 46 = some (.struct fs) ∧ (fs[0]?.map fun f => (f.type, f.offset)) = some (9, 0) ∧ (fs[1]?.map fun f => (f.type, f.offset)) = some (44, 1) ∧ (fs[2]?.map fun f => (f.type, f.offset)) = some (44, 2) ∧ (fs[3]?.map fun f => (f.type, f.offset)) = some (44, 3) :=
    ⟨_, Try.underlying46, rfl, rfl, rfl, rfl⟩
  obtain ⟨fs, hu, e0, e1, e2, e3⟩ := hu
  obtain ⟨hl, hf⟩ := h.struct_inv hu
  rw [cells_chg] at hl
  match xs, hl with
  | [a, b, c, d], _ =>
    simp only [Option.map_eq_some_iff, Prod.mk.injEq] at e0 e1 e2 e3
    obtain ⟨f0, h0, t0, o0⟩ := e0
    obtain ⟨f1, h1, t1, o1⟩ := e1
    obtain ⟨f2, h2, t2, o2⟩ := e2
    obtain ⟨f3, h3, t3, o3⟩ := e3
    have k0 := hf 0 f0 h0
    have k1 := hf 1 f1 h1
    have k2 := hf 2 f2 h2
    have k3 := hf 3 f3 h3
    rw [t0, o0, (by kernel_rfl : Try.prog.cellsOf 9 = 1)] at k0
    rw [t1, o1, (by kernel_rfl : Try.prog.cellsOf 44 = 1)] at k1
    rw [t2, o2, (by kernel_rfl : Try.prog.cellsOf 44 = 1)] at k2
    rw [t3, o3, (by kernel_rfl : Try.prog.cellsOf 44 = 1)] at k3
    obtain ⟨s, q0, _⟩ := k0.str_inv (by kernel_rfl)
    obtain ⟨l1, q1, w1⟩ := row_ty k1
    obtain ⟨l2, q2, w2⟩ := row_ty k2
    obtain ⟨l3, q3, w3⟩ := row_ty k3
    simp at q0 q1 q2 q3
    subst q0 q1 q2 q3
    exact ⟨⟨s, l1, l2, l3⟩, rfl, w1, w2, w3⟩
theorem chg_ty {xs : List DV} (h : Ty Try.prog 22 xs) : ∃ l : List Chg, xs = [chL l] ∧ l.length ≤ 9223372036854775807 ∧ ∀ x ∈ l, x.wf := by
  obtain ⟨els, rfl, hn, he⟩ := h.lst_inv und_chg
  rw [cells_chg]
  have : ∀ els : List DV, (∀ x ∈ els, x = elOf (isAggT Try.prog 46) x.cells ∧ x.cells.length = Try.prog.cellsOf 46 ∧ Ty Try.prog 46 x.cells) → ∃ l : List Chg, els = l.map chD ∧ ∀ x ∈ l, x.wf := by
    intro els
    induction els with
    | nil => intro _; exact ⟨[], rfl, by simp⟩
    | cons x r ih =>
      intro h
      obtain ⟨l, h1, h2⟩ := ih (fun y hy => h y (by simp [hy]))
      obtain ⟨g1, _, g3⟩ := h x (by simp)
      obtain ⟨v, v1, v2⟩ := chg1_ty g3
      rw [agg_chg] at g1
      exact ⟨v :: l, by rw [g1, h1]; simp only [elOf, cond_true, v1, List.map_cons], fun z hz => by
        rcases List.mem_cons.1 hz with rfl | hz
        · exact v2
        · exact h2 z hz⟩
  obtain ⟨l, rfl, hl⟩ := this els he
  refine ⟨l, rfl, ?_, hl⟩
  rw [List.length_map] at hn
  exact Nat.le_trans hn (by decide)
end Go.Proofs.Ytljfolepmkcjlaa
