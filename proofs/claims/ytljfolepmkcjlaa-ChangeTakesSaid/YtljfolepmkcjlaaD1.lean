/-
  The closures of change.Take: a number, a row.
-/
import Derived.Test.YtljfolepmkcjlaaC4
import Derived.Test.YtljfolepmkcjlaaCRT
import Derived.Test.YtljfolepmkcjlaaCh2
namespace Go.Proofs.Ytljfolepmkcjlaa
open Go.RowKit Plain Am IntWalk
set_option maxRecDepth 100000
set_option linter.unusedVariables false
set_option linter.unusedSimpArgs false

/-! The readings' closures: what they answer. -/
def cntE : Ent := fun a o => match a, o with
  | [.ptr 0 0, .ptr 1 0], [.box A [.d (.str s)], .box B [.d (.bool ok)]] =>
    some (.d (.int .i64 ((cntI ⟨s, ok⟩).1 : Nat)), [.box A [.d (.str (cntI ⟨s, ok⟩).2.s)], .box B [.d (.bool (cntI ⟨s, ok⟩).2.ok)]], [Nat.beq A 9, Nat.beq B 4, decide (s.length ≤ 65536)])
  | _, _ => none
def rowE : Ent := fun a o => match a, o with
  | [.ptr 0 0, .ptr 1 0, .ptr 2 0], [.box F [.clo (.func f) [] [.ptr 1 0, .ptr 2 0]], .box A [.d (.str s)], .box B [.d (.bool ok)]] =>
    some (.d (rD (rowI ⟨s, ok⟩).1), [.box F [.clo (.func f) [] [.ptr 1 0, .ptr 2 0]], .box A [.d (.str (rowI ⟨s, ok⟩).2.s)], .box B [.d (.bool (rowI ⟨s, ok⟩).2.ok)]], [Nat.beq f 43, Nat.beq F 64, Nat.beq A 9, Nat.beq B 4, decide (s.length ≤ 65536)])
  | _, _ => none
noncomputable abbrev cnC : Code := bodyOf Try.f43
noncomputable abbrev rwC : Code := bodyOf Try.f45
noncomputable abbrev tkC : Code := bodyOf Try.f21
noncomputable abbrev rtC : Code := bodyOf Try.f22
def cnO (s : Bs) (ok : Bool) : List PObj := [.box 9 [.d (.str s)], .box 4 [.d (.bool ok)]]
def rwO (s : Bs) (ok : Bool) : List PObj := [.box 64 [.clo (.func 43) [] [.ptr 1 0, .ptr 2 0]], .box 9 [.d (.str s)], .box 4 [.d (.bool ok)]]
def tkS (s : Bs) (ok : Bool) (out : List DV) (n : Int) : ESt := { n := 66, m := 0, regs := T.mk [(1, .ptr 200 0), (4, .ptr 201 0), (6, .clo (.func 45) [] [.ptr 202 0, .ptr 200 0, .ptr 201 0]), (7, .own 203 4), (8, .d (.int .i64 n))], objs := T.mk [(200, .box 9 [.d (.str s)]), (201, .box 4 [.d (.bool ok)]), (202, .box 64 [.clo (.func 43) [] [.ptr 200 0, .ptr 201 0]]), (203, .arr 46 4 out)] }
def rtS (s : Bs) (many pA : Int) (out : List DV) : ESt := { n := 114, m := 0, regs := T.mk [(0, .d (.str s)), (4, .d (.int .u64 many)), (5, .d (.int .i64 pA)), (7, .own 200 4)], objs := T.mk [(200, .arr 46 4 out)] }
def rtI (s : Bs) (many pA : Int) (out : List DV) (c0 c1 c2 c3 : DV) (j : Int) : ESt := { n := 114, m := 0, regs := T.mk [(0, .d (.str s)), (4, .d (.int .u64 many)), (5, .d (.int .i64 pA)), (7, .own 200 4), (8, .ptr 201 0), (9, .d (.int .i64 j))], objs := T.mk [(200, .arr 46 4 out), (201, .arr 68 1 [c0, c1, c2, c3])] }
theorem takeN_len (s : Bs) : (takeN s).2.1 ≤ s.length := by
  by_cases h : (takeN s).2.2 = 0
  · exact (takeN_ok s h).2.2.2.1
  · rw [(takeN_bad s h).2]; exact Nat.zero_le _
noncomputable def tn : List (Nat × Ent) := [(44, e1 numG), (46, e1 takeG)]
theorem tn_ok : EntsOk Try.prog tn := .cons num_ent (.cons take_ent .nil)
theorem ov_cut {s : Bs} {k : Nat} : RVle (.d (.str (cutL s (some (Nat.cast (R := Int) k)) none))) (.d (.str (s.drop k))) := .of_eq (by rw [cutL_drop])
theorem ov_cnt (s : Bs) (ok : Bool) : RVle (.d (.int .i64 (IntKind.i64.wrap (if (4000 : Int) < (Nat.cast (R := Int) (takeN s).1) then 4000 else (Nat.cast (R := Int) (takeN s).1))))) (.d (.int .i64 (Nat.cast (R := Int) (cntI ⟨s, ok⟩).1))) := .of_eq (by
  refine congrArg (fun z : Int => RV.d (.int .i64 z)) ?_
  simp only [cntI]
  split <;> split <;> first | omega | (rw [i64_in _ (by omega)]; rfl) | (rw [i64_in _ (by omega)]))
theorem cnt_c (s : Bs) (ok : Bool) (hs : s.length ≤ 65536) : C Try.prog 43 [.ptr 0 0, .ptr 1 0] (cnO s ok) (fun r o => r = .d (.int .i64 ((cntI ⟨s, ok⟩).1 : Nat)) ∧ o = cnO (cntI ⟨s, ok⟩).2.s (cntI ⟨s, ok⟩).2.ok) := by
  have ok' := cfT_ok tn_ok
  have hb := takeN_len s
  refine C_of_run (fn := Try.f43) (body := cnC) true (by kernel_rfl) (by kernel_rfl) (by kernel_rfl) ?_
  cases ok with
  | false =>
    have ok := ok'
    exact WK.fin ok 1000 0 [(23, RV.d (DV.str (s.drop (takeN s).2.1))), (26, RV.d (DV.int Go.IntKind.i64 (Nat.cast (R := Int) ((cntI ⟨s, false⟩).1))))] [decide (List.length s ≤ 65536), decide (0 ≤ (Nat.cast (R := Int) (Plain.takeN s).snd.fst) ∧ (Nat.cast (R := Int) (Plain.takeN s).snd.fst) ≤ (Nat.cast (R := Int) (List.length s)))] [(RV.d (DV.str (cutL s (Option.some (Nat.cast (R := Int) (Plain.takeN s).snd.1)) Option.none)), RV.d (DV.str (s.drop (takeN s).2.1))), (RV.d (DV.int Go.IntKind.i64 (Go.IntKind.i64.wrap (if 4000 < (Nat.cast (R := Int) (Plain.takeN s).fst) then 4000 else (Nat.cast (R := Int) (Plain.takeN s).1)))), RV.d (DV.int Go.IntKind.i64 (Nat.cast (R := Int) ((cntI ⟨s, false⟩).1))))] rfl (by kernel_rfl : runEnd (cfT tn) true _ 1000 0 _ _ (ini 27 [.ptr 0 0, .ptr 1 0] (cnO s false)) = some (RV.d (DV.int Go.IntKind.i64 (Nat.cast (R := Int) ((cntI ⟨s, false⟩).1))), [PObj.box 9 [RV.d (DV.str (s.drop (takeN s).2.1))], PObj.box 4 [RV.d (DV.bool false)]], _, _)) (by refine ⟨?_, ?_, trivial⟩ <;> (exact decide_eq_true (by omega))) (by refine ⟨?_, ?_, trivial⟩ <;> (first | exact ov_cut | exact ov_cnt s false)) ⟨rfl, by simp [cntI, cnO]⟩
  | true =>
    have ok := ok'
    by_cases he : (takeN s).2.2 = 0
    · skip
      exact WK.fin ok 1000 0 [(23, RV.d (DV.str (s.drop (takeN s).2.1))), (26, RV.d (DV.int Go.IntKind.i64 (Nat.cast (R := Int) ((cntI ⟨s, true⟩).1)))), (15, RV.d (DV.bool true)), (19, RV.d (DV.bool (decide ((takeN s).1 ≤ 4000))))] [decide (List.length s ≤ 65536), decide (0 ≤ (Nat.cast (R := Int) (Plain.takeN s).snd.fst) ∧ (Nat.cast (R := Int) (Plain.takeN s).snd.fst) ≤ (Nat.cast (R := Int) (List.length s)))] [(RV.d (DV.bool ((Nat.cast (R := Int) (Plain.takeN s).snd.2) == 0)), RV.d (DV.bool true)), (RV.d (DV.bool (decide ((Nat.cast (R := Int) (Plain.takeN s).fst) ≤ 4000))), RV.d (DV.bool (decide ((takeN s).1 ≤ 4000)))), (RV.d (DV.str (cutL s (Option.some (Nat.cast (R := Int) (Plain.takeN s).snd.1)) Option.none)), RV.d (DV.str (s.drop (takeN s).2.1))), (RV.d (DV.int Go.IntKind.i64 (Go.IntKind.i64.wrap (if 4000 < (Nat.cast (R := Int) (Plain.takeN s).fst) then 4000 else (Nat.cast (R := Int) (Plain.takeN s).1)))), RV.d (DV.int Go.IntKind.i64 (Nat.cast (R := Int) ((cntI ⟨s, true⟩).1))))] rfl (by kernel_rfl : runEnd (cfT tn) true _ 1000 0 _ _ (ini 27 [.ptr 0 0, .ptr 1 0] (cnO s true)) = some (RV.d (DV.int Go.IntKind.i64 (Nat.cast (R := Int) ((cntI ⟨s, true⟩).1))), [PObj.box 9 [RV.d (DV.str (s.drop (takeN s).2.1))], PObj.box 4 [RV.d (DV.bool (decide ((takeN s).1 ≤ 4000)))]], _, _)) (by refine ⟨?_, ?_, trivial⟩ <;> (exact decide_eq_true (by omega))) (by refine ⟨?_, ?_, ?_, ?_, trivial⟩ <;> (first | exact ov_cut | exact ov_cnt s true | exact le_bool (by rw [he]; rfl) | (refine le_bool ?_; apply Bool.eq_iff_iff.2; simp only [decide_eq_true_eq]; omega))) ⟨rfl, by simp [cntI, cnO, he]⟩
    · skip
      exact WK.fin ok 1000 0 [(23, RV.d (DV.str (s.drop (takeN s).2.1))), (26, RV.d (DV.int Go.IntKind.i64 (Nat.cast (R := Int) ((cntI ⟨s, true⟩).1)))), (15, RV.d (DV.bool false))] [decide (List.length s ≤ 65536), decide (0 ≤ (Nat.cast (R := Int) (Plain.takeN s).snd.fst) ∧ (Nat.cast (R := Int) (Plain.takeN s).snd.fst) ≤ (Nat.cast (R := Int) (List.length s)))] [(RV.d (DV.bool ((Nat.cast (R := Int) (Plain.takeN s).snd.2) == 0)), RV.d (DV.bool false)), (RV.d (DV.str (cutL s (Option.some (Nat.cast (R := Int) (Plain.takeN s).snd.1)) Option.none)), RV.d (DV.str (s.drop (takeN s).2.1))), (RV.d (DV.int Go.IntKind.i64 (Go.IntKind.i64.wrap (if 4000 < (Nat.cast (R := Int) (Plain.takeN s).fst) then 4000 else (Nat.cast (R := Int) (Plain.takeN s).1)))), RV.d (DV.int Go.IntKind.i64 (Nat.cast (R := Int) ((cntI ⟨s, true⟩).1))))] rfl (by kernel_rfl : runEnd (cfT tn) true _ 1000 0 _ _ (ini 27 [.ptr 0 0, .ptr 1 0] (cnO s true)) = some (RV.d (DV.int Go.IntKind.i64 (Nat.cast (R := Int) ((cntI ⟨s, true⟩).1))), [PObj.box 9 [RV.d (DV.str (s.drop (takeN s).2.1))], PObj.box 4 [RV.d (DV.bool false)]], _, _)) (by refine ⟨?_, ?_, trivial⟩ <;> (exact decide_eq_true (by omega))) (by refine ⟨?_, ?_, ?_, trivial⟩ <;> (first | exact ov_cut | exact ov_cnt s true | exact le_bool (beq_eq_false_iff_ne.2 (by omega)))) ⟨rfl, by simp [cntI, cnO, he]⟩
theorem cnt_ent : EntOk Try.prog 43 cntE := by
  intro a o r o' c hg hc
  unfold cntE at hg
  split at hg
  · rename_i A s B ok
    simp only [Option.some.injEq, Prod.mk.injEq] at hg
    obtain ⟨rfl, rfl, rfl⟩ := hg
    have h1 := nbE (hc (Nat.beq A 9) (by simp))
    have h2 := nbE (hc (Nat.beq B 4) (by simp))
    have h3 := of_decide_eq_true (hc (decide (s.length ≤ 65536)) (by simp))
    subst h1 h2
    exact cnt_c s ok h3
  · cases hg
noncomputable def tn2 : List (Nat × Ent) := (43, cntE) :: tn
theorem tn2_ok : EntsOk Try.prog tn2 := .cons cnt_ent tn_ok
theorem cntI_len (p : Rd) : (cntI p).2.s.length ≤ p.s.length := by simp only [cntI, List.length_drop]; omega
theorem rowI_len (p : Rd) : (rowI p).2.s.length ≤ p.s.length := by
  have := cntI_len p
  simp only [rowI, rowJ, List.length_drop]; omega
theorem cutL_take (s : Bs) (k : Nat) : cutL s none (some (k : Int)) = s.take k := by simp [cutL]
theorem row_c2 (s : Bs) (ok : Bool) (hs : s.length ≤ 65536) : C Try.prog 45 [.ptr 0 0, .ptr 1 0, .ptr 2 0] (rwO s ok) (fun r o => r = .d (rD (rowI ⟨s, ok⟩).1) ∧ o = rwO (rowI ⟨s, ok⟩).2.s (rowI ⟨s, ok⟩).2.ok) := by
  have hok := cfT_ok tn2_ok
  have hb := cntI_len ⟨s, ok⟩
  simp only at hb
  refine C_of_run (fn := Try.f45) (body := rwC) true (by kernel_rfl) (by kernel_rfl) (by kernel_rfl) ?_
  by_cases hl : (cntI ⟨s, ok⟩).2.s.length < (cntI ⟨s, ok⟩).1
  · have e1 : (cntI ⟨s, ok⟩).2.s.take (cntI ⟨s, ok⟩).1 = (cntI ⟨s, ok⟩).2.s := List.take_of_length_le (by omega)
    have e2 : (cntI ⟨s, ok⟩).2.s.drop (cntI ⟨s, ok⟩).1 = [] := List.drop_eq_nil_of_le (by omega)
    have e3 : decide ((cntI ⟨s, ok⟩).1 ≤ (cntI ⟨s, ok⟩).2.s.length) = false := decide_eq_false (by omega)
    obtain ⟨x, hx⟩ : ∃ x, (cntI ⟨s, ok⟩).2.s = x := ⟨_, rfl⟩
    rw [hx] at e1 e2 e3
    exact WK.fin hok 1000 0 [(12, RV.d (DV.bool true)), (18, RV.d (DV.str x)), (29, RV.d (DV.str []))] [true, true, decide (List.length s ≤ 65536), decide (0 ≤ (Nat.cast (R := Int) (List.length (Plain.cntI { s := s, ok := ok }).snd.s)) ∧ (Nat.cast (R := Int) (List.length (Plain.cntI { s := s, ok := ok }).snd.s)) ≤ (Nat.cast (R := Int) (List.length (Plain.cntI { s := s, ok := ok }).snd.s))), decide (List.length x ≤ 1048576), decide (0 ≤ (Nat.cast (R := Int) (List.length (Plain.cntI { s := s, ok := ok }).snd.s)) ∧ (Nat.cast (R := Int) (List.length (Plain.cntI { s := s, ok := ok }).snd.s)) ≤ (Nat.cast (R := Int) (List.length (Plain.cntI { s := s, ok := ok }).snd.s)))] [(RV.d (DV.bool (decide ((Nat.cast (R := Int) (List.length (Plain.cntI { s := s, ok := ok }).snd.s)) < (Nat.cast (R := Int) (Plain.cntI { s := s, ok := ok }).fst)))), RV.d (DV.bool true)), (RV.d (DV.str (cutL (Plain.cntI { s := s, ok := ok }).snd.1 Option.none (Option.some (Nat.cast (R := Int) (List.length (Plain.cntI { s := s, ok := ok }).snd.1))))), RV.d (DV.str x)), (RV.d (DV.str (cutL (Plain.cntI { s := s, ok := ok }).snd.1 (Option.some (Nat.cast (R := Int) (List.length (Plain.cntI { s := s, ok := ok }).snd.1))) Option.none)), RV.d (DV.str []))] rfl (by kernel_rfl : runEnd (cfT tn2) true _ 1000 0 _ _ (ini 31 [.ptr 0 0, .ptr 1 0, .ptr 2 0] (rwO s ok)) = some (RV.d (DV.lst 3 (List.map vD (rowD x)) false), [PObj.box 64 [RV.clo (Go.Fn.func 43) [] [RV.ptr 1 0, RV.ptr 2 0]], PObj.box 9 [RV.d (DV.str [])], PObj.box 4 [RV.d (DV.bool false)]], _, _)) (by refine ⟨?_, ?_, ?_, ?_, ?_, ?_, trivial⟩ <;> (first | rfl | exact decide_eq_true (by rw [← hx]; omega) | exact decide_eq_true (by omega))) (by refine ⟨?_, ?_, ?_, trivial⟩ <;> (first | exact le_bool (decide_eq_true (by omega)) | (refine .of_eq ?_; rw [cutL_take, ← hx, List.take_of_length_le (Nat.le_refl _)]) | (refine .of_eq ?_; rw [cutL_drop, List.drop_eq_nil_of_le (Nat.le_refl _)]))) ⟨by simp only [rowI, rowJ, hx, e1, rowD], by simp only [rowI, rowJ, hx, e2, e3, Bool.and_false, Bool.false_and]; rfl⟩
  · have e3 : decide ((cntI ⟨s, ok⟩).1 ≤ (cntI ⟨s, ok⟩).2.s.length) = true := decide_eq_true (by omega)
    obtain ⟨x, hx⟩ : ∃ x, (cntI ⟨s, ok⟩).2.s.take (cntI ⟨s, ok⟩).1 = x := ⟨_, rfl⟩
    have hxl : x.length ≤ 65536 := by rw [← hx, List.length_take]; omega
    cases hk : (cntI ⟨s, ok⟩).2.ok with
    | true =>
      obtain ⟨b, hbb⟩ : ∃ b, (takeRow x).isSome = b := ⟨_, rfl⟩
      have hb7 : ((if takeRow x = none then (7 : Int) else 0) == 0) = b := by
        rw [← hbb]; cases takeRow x <;> rfl
      exact WK.fin hok 1000 0 [(12, RV.d (DV.bool false)), (22, RV.d (DV.bool true)), (25, RV.d (DV.bool b)), (18, RV.d (DV.str x)), (29, RV.d (DV.str (List.drop (Plain.cntI { s := s, ok := ok }).1 (Plain.cntI { s := s, ok := ok }).snd.1)))] [true, true, decide (List.length s ≤ 65536), decide (0 ≤ (Nat.cast (R := Int) (Plain.cntI { s := s, ok := ok }).fst) ∧ (Nat.cast (R := Int) (Plain.cntI { s := s, ok := ok }).fst) ≤ (Nat.cast (R := Int) (List.length (Plain.cntI { s := s, ok := ok }).snd.s))), decide (List.length x ≤ 1048576), decide (0 ≤ (Nat.cast (R := Int) (Plain.cntI { s := s, ok := ok }).fst) ∧ (Nat.cast (R := Int) (Plain.cntI { s := s, ok := ok }).fst) ≤ (Nat.cast (R := Int) (List.length (Plain.cntI { s := s, ok := ok }).snd.s)))] [(RV.d (DV.bool (decide ((Nat.cast (R := Int) (List.length (Plain.cntI { s := s, ok := ok }).snd.s)) < (Nat.cast (R := Int) (Plain.cntI { s := s, ok := ok }).fst)))), RV.d (DV.bool false)), (RV.d (DV.str (cutL (Plain.cntI { s := s, ok := ok }).snd.1 Option.none (Option.some (Nat.cast (R := Int) (Plain.cntI { s := s, ok := ok }).1)))), RV.d (DV.str x)), (RV.d (DV.bool (Plain.cntI { s := s, ok := ok }).snd.2), RV.d (DV.bool true)), (RV.d (DV.bool ((if Plain.takeRow x = Option.none then (7 : Int) else 0) == 0)), RV.d (DV.bool b)), (RV.d (DV.str (cutL (Plain.cntI { s := s, ok := ok }).snd.1 (Option.some (Nat.cast (R := Int) (Plain.cntI { s := s, ok := ok }).1)) Option.none)), RV.d (DV.str (List.drop (Plain.cntI { s := s, ok := ok }).1 (Plain.cntI { s := s, ok := ok }).snd.1)))] rfl (by kernel_rfl : runEnd (cfT tn2) true _ 1000 0 _ _ (ini 31 [.ptr 0 0, .ptr 1 0, .ptr 2 0] (rwO s ok)) = some (RV.d (DV.lst 3 (List.map vD (rowD x)) false), [PObj.box 64 [RV.clo (Go.Fn.func 43) [] [RV.ptr 1 0, RV.ptr 2 0]], PObj.box 9 [RV.d (DV.str (List.drop (Plain.cntI { s := s, ok := ok }).1 (Plain.cntI { s := s, ok := ok }).snd.1))], PObj.box 4 [RV.d (DV.bool b)]], _, _)) (by refine ⟨?_, ?_, ?_, ?_, ?_, ?_, trivial⟩ <;> (first | rfl | exact decide_eq_true (by omega))) (by refine ⟨?_, ?_, ?_, ?_, ?_, trivial⟩ <;> (first | exact le_bool (decide_eq_false (by omega)) | exact le_bool hk | exact le_bool hb7 | exact ov_cut | (refine .of_eq ?_; rw [cutL_take, hx]))) ⟨by simp only [rowI, rowJ, rowD, hx], by simp only [rowI, rowJ, e3, hk, hx, hbb, Bool.true_and]; rfl⟩
    | false =>
      exact WK.fin hok 1000 0 [(12, RV.d (DV.bool false)), (22, RV.d (DV.bool false)), (18, RV.d (DV.str x)), (29, RV.d (DV.str (List.drop (Plain.cntI { s := s, ok := ok }).1 (Plain.cntI { s := s, ok := ok }).snd.1)))] [true, true, decide (List.length s ≤ 65536), decide (0 ≤ (Nat.cast (R := Int) (Plain.cntI { s := s, ok := ok }).fst) ∧ (Nat.cast (R := Int) (Plain.cntI { s := s, ok := ok }).fst) ≤ (Nat.cast (R := Int) (List.length (Plain.cntI { s := s, ok := ok }).snd.s))), decide (List.length x ≤ 1048576), decide (0 ≤ (Nat.cast (R := Int) (Plain.cntI { s := s, ok := ok }).fst) ∧ (Nat.cast (R := Int) (Plain.cntI { s := s, ok := ok }).fst) ≤ (Nat.cast (R := Int) (List.length (Plain.cntI { s := s, ok := ok }).snd.s)))] [(RV.d (DV.bool (decide ((Nat.cast (R := Int) (List.length (Plain.cntI { s := s, ok := ok }).snd.s)) < (Nat.cast (R := Int) (Plain.cntI { s := s, ok := ok }).fst)))), RV.d (DV.bool false)), (RV.d (DV.str (cutL (Plain.cntI { s := s, ok := ok }).snd.1 Option.none (Option.some (Nat.cast (R := Int) (Plain.cntI { s := s, ok := ok }).1)))), RV.d (DV.str x)), (RV.d (DV.bool (Plain.cntI { s := s, ok := ok }).snd.2), RV.d (DV.bool false)), (RV.d (DV.str (cutL (Plain.cntI { s := s, ok := ok }).snd.1 (Option.some (Nat.cast (R := Int) (Plain.cntI { s := s, ok := ok }).1)) Option.none)), RV.d (DV.str (List.drop (Plain.cntI { s := s, ok := ok }).1 (Plain.cntI { s := s, ok := ok }).snd.1)))] rfl (by kernel_rfl : runEnd (cfT tn2) true _ 1000 0 _ _ (ini 31 [.ptr 0 0, .ptr 1 0, .ptr 2 0] (rwO s ok)) = some (RV.d (DV.lst 3 (List.map vD (rowD x)) false), [PObj.box 64 [RV.clo (Go.Fn.func 43) [] [RV.ptr 1 0, RV.ptr 2 0]], PObj.box 9 [RV.d (DV.str (List.drop (Plain.cntI { s := s, ok := ok }).1 (Plain.cntI { s := s, ok := ok }).snd.1))], PObj.box 4 [RV.d (DV.bool false)]], _, _)) (by refine ⟨?_, ?_, ?_, ?_, ?_, ?_, trivial⟩ <;> (first | rfl | exact decide_eq_true (by omega))) (by refine ⟨?_, ?_, ?_, ?_, trivial⟩ <;> (first | exact le_bool (decide_eq_false (by omega)) | exact le_bool hk | exact ov_cut | (refine .of_eq ?_; rw [cutL_take, hx]))) ⟨by simp only [rowI, rowJ, rowD, hx], by simp only [rowI, rowJ, hk, Bool.false_and]; rfl⟩
theorem row_ent2 : EntOk Try.prog 45 rowE := by
  intro a o r o' c hg hc
  unfold rowE at hg
  split at hg
  · rename_i F f A s B ok
    simp only [Option.some.injEq, Prod.mk.injEq] at hg
    obtain ⟨rfl, rfl, rfl⟩ := hg
    have h0 := nbE (hc (Nat.beq f 43) (by simp))
    have hF := nbE (hc (Nat.beq F 64) (by simp))
    have h1 := nbE (hc (Nat.beq A 9) (by simp))
    have h2 := nbE (hc (Nat.beq B 4) (by simp))
    have h3 := of_decide_eq_true (hc (decide (s.length ≤ 65536)) (by simp))
    subst h0 hF h1 h2
    exact row_c2 s ok h3
  · cases hg
end Go.Proofs.Ytljfolepmkcjlaa
