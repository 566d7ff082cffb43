/-
  change.compare, change.may, change.Check, rebase.order.
-/
import Derived.Test.YtljfolepmkcjlaaC1
namespace Go.Proofs.Ytljfolepmkcjlaa
open Go.RowKit Plain Am IntWalk
set_option maxRecDepth 100000
set_option linter.unusedVariables false
set_option linter.unusedSimpArgs false

noncomputable abbrev bodyOf (f : Func) : Code := f.body.getD .skip
noncomputable abbrev mcC : Code := bodyOf Try.f39
noncomputable abbrev roC : Code := bodyOf Try.f59
noncomputable abbrev myC : Code := bodyOf Try.f38
def myS (c : Chg) (j : Int) : ESt := { n := 48, m := 0, regs := T.mk [(36, .d (.agg [rD c.k, rD c.o, rD c.n])), (37, .d (.int .i64 j))], objs := T.mk [] }
noncomputable abbrev ckC : Code := bodyOf Try.f17
def ckS (l : List DV) (i : Nat) : ESt := { n := 33, m := 0, regs := T.mk [(0, .d (.lst 4 l false)), (8, .d (.lst 4 l false)), (9, .d (.int .i64 (l.length : Int))), (10, .d (.int .i64 (i : Int)))], objs := T.mk [] }
noncomputable abbrev nuC : Code := bodyOf Try.f97
noncomputable abbrev txC : Code := bodyOf Try.f98
def txS (s t : Bs) (i : Nat) : ESt := { n := 39, m := 0, regs := T.mk [(0, .d (.str s)), (1, .d (.str t)), (5, .d (.int .i64 (i : Int)))], objs := T.mk [] }
noncomputable abbrev rvC : Code := bodyOf Try.f83
noncomputable abbrev rrC : Code := bodyOf Try.f84
def rrS (x y : List DV) (i : Nat) : ESt := { n := 36, m := 0, regs := T.mk [(0, .d (.lst 3 x false)), (1, .d (.lst 3 y false)), (5, .d (.int .i64 (i : Int)))], objs := T.mk [] }
noncomputable abbrev rcC : Code := bodyOf Try.f70
noncomputable abbrev rowC : Code := bodyOf Try.f69
noncomputable abbrev maC : Code := bodyOf Try.f49
def maS (l : List DV) (i : Nat) : ESt := { n := 73, m := 0, regs := T.mk [(0, .d (.lst 4 l false)), (3, .d (.int .i64 (i : Int)))], objs := T.mk [] }
noncomputable abbrev atC' : Code := bodyOf Try.f35
def atS (x : Chg) (l : List DV) (i : Nat) : ESt := { n := 31, m := 0, regs := T.mk [(1, .d (.lst 4 l false)), (2, .ptr 200 0), (5, .d (.int .i64 (i : Int)))], objs := T.mk [(200, .box 46 [.d (.str x.t), .d (rD x.k), .d (rD x.o), .d (rD x.n)])] }
noncomputable abbrev reC : Code := bodyOf Try.f34
def reS (x y : List DV) (i : Nat) : ESt := { n := 43, m := 0, regs := T.mk [(0, .d (.lst 4 x false)), (1, .d (.lst 4 y false)), (5, .d (.int .i64 (i : Int)))], objs := T.mk [] }
noncomputable abbrev ruC : Code := bodyOf Try.f13
def ruS (x y : List DV) (win : Bool) (out : List DV) (i : Nat) : ESt := { n := 68, m := 0, regs := T.mk [(0, .d (.lst 4 x false)), (1, .d (.lst 4 y false)), (2, .d (.bool win)), (9, .own 200 4), (10, .d (.int .i64 (i : Int)))], objs := T.mk [(200, .arr 46 4 out)] }
noncomputable abbrev rmC : Code := bodyOf Try.f15
def rmS (x y : List DV) (out : List DV) (i : Nat) : ESt := { n := 52, m := 0, regs := T.mk [(0, .d (.lst 4 x false)), (1, .d (.lst 4 y false)), (7, .own 200 4), (8, .d (.int .i64 (i : Int)))], objs := T.mk [(200, .arr 46 4 out)] }
noncomputable abbrev saC : Code := bodyOf Try.f16
def saS (x y : List DV) (i : Nat) : ESt := { n := 70, m := 0, regs := T.mk [(0, .d (.lst 4 x false)), (1, .d (.lst 4 y false)), (5, .d (.int .i64 (i : Int)))], objs := T.mk [] }

theorem eqG_ent {f : Nat} (h : ∀ a b : List Val, a.length ≤ 65536 → b.length ≤ 65536 → (∀ v ∈ a, v.wf) → (∀ v ∈ b, v.wf) → C Try.prog f [.d (rD a), .d (rD b)] [] (fun r o => r = .d (.bool (decide (a = b))) ∧ o = [])) : EntOk Try.prog f (e2 eqG) := by
  refine e2_ok fun x x2 y c hg hc => ?_
  simp only [eqG, Option.some.injEq, Prod.mk.injEq] at hg
  obtain ⟨rfl, rfl⟩ := hg
  obtain ⟨a, rfl, wa, la⟩ := isR_spec (hc (isR x) (by simp))
  obtain ⟨b, rfl, wb, lb⟩ := isR_spec (hc (isR x2) (by simp))
  rw [unR_rD, unR_rD]
  exact h a b la lb wa wb
theorem eq_ent : EntOk Try.prog 33 (e2 eqG) := eqG_ent fun a b la _ _ _ => eqR_c a b la
theorem same08_ent : EntOk Try.prog 36 (e2 eqG) := eqG_ent fun a b la lb wa wb => by
  have := same_ent [.d (rD a), .d (rD b)] [] _ _ _ rfl (by
    intro b' hb
    simp only [List.mem_cons, List.not_mem_nil, or_false] at hb
    rcases hb with rfl | rfl
    · exact okRow_map la wa
    · exact okRow_map lb wb)
  rw [toRow_map, toRow_map] at this
  exact this
theorem crG_ent : EntOk Try.prog 62 (e2 crG) := by
  refine e2_ok fun x x2 y c hg hc => ?_
  simp only [crG, Option.some.injEq, Prod.mk.injEq] at hg
  obtain ⟨rfl, rfl⟩ := hg
  obtain ⟨a, rfl, wa, la⟩ := isR_spec (hc (isR x) (by simp))
  obtain ⟨b, rfl, wb, lb⟩ := isR_spec (hc (isR x2) (by simp))
  rw [unR_rD, unR_rD]
  exact cr_c a b la
noncomputable def t2 : List (Nat × Ent) := [(33, e2 eqG), (36, e2 eqG), (62, e2 crG), (61, e2 cmpE), (55, e1 (gRow putD fun _ => true))]
theorem t2_ok : EntsOk Try.prog t2 := .cons eq_ent (.cons same08_ent (.cons crG_ent (.cons cmp_ent (.cons put_ent .nil))))
theorem same_c (a b : List Val) (ha : a.length ≤ 65536) (hb : b.length ≤ 65536) (wa : ∀ v ∈ a, v.wf) (wb : ∀ v ∈ b, v.wf) : C Try.prog 60 [.d (rD a), .d (rD b)] [] (fun r o => r = .d (.bool (decide (a = b))) ∧ o = []) := by
  have ok := cfT_ok t2_ok
  refine C_of_run (fn := Try.f60) (body := bodyOf Try.f60) true (by kernel_rfl) (by kernel_rfl) (by kernel_rfl) ?_
  exact WK.fin ok 1000 0 [] [isR (rD a), isR (rD b)] [] rfl (by kernel_rfl : runEnd (cfT t2) true _ 1000 0 _ _ (ini 8 [.d (rD a), .d (rD b)] []) = some (.d (.bool (decide (unR (rD a) = unR (rD b)))), [], _, _)) ⟨isR_rD ha wa, isR_rD hb wb, trivial⟩ trivial ⟨by rw [unR_rD, unR_rD], rfl⟩

theorem ov_S (a b : Bs) : RVle (.d (.int .i64 (Go.Lib.compareBytes a b))) (.d (.int .i64 (cmpS a b))) := .of_eq rfl
theorem ov_R (a b : List Val) : RVle (.d (.int .i64 (cmpR (unR (rD a)) (unR (rD b))))) (.d (.int .i64 (cmpR a b))) := .of_eq (by rw [unR_rD, unR_rD])
theorem ov_E (a b : List Val) : RVle (.d (.bool (decide (unR (rD a) = unR (rD b))))) (.d (.bool (decide (a = b)))) := .of_eq (by rw [unR_rD, unR_rD])
theorem ov_C (a b : Chg) : RVle (.d (.int .i64 (cmpC (toChg (chD a)) (toChg (chD b))))) (.d (.int .i64 (cmpC a b))) := .of_eq (by rw [toChg_chD, toChg_chD])
theorem ov_M {a : Chg} {b : Bool} (h : mayC a = b) : RVle (.d (.bool (mayC (toChg (chD a))))) (.d (.bool b)) := .of_eq (by rw [toChg_chD, h])
theorem ok_k {c : Chg} (h : Chg.ok c) : isR (rD c.k) = true := isR_rD h.2.1 h.1.1
theorem ok_o {c : Chg} (h : Chg.ok c) : isR (rD c.o) = true := isR_rD h.2.2.1 h.1.2.1
theorem ok_n {c : Chg} (h : Chg.ok c) : isR (rD c.n) = true := isR_rD h.2.2.2 h.1.2.2

theorem ccG_ent {f : Nat} (h : ∀ a b : Chg, Chg.ok a → Chg.ok b → C Try.prog f [.d (chD a), .d (chD b)] [] (fun r o => r = .d (.int .i64 (cmpC a b)) ∧ o = [])) : EntOk Try.prog f (e2 ccG) := by
  refine e2_ok fun x x2 y c hg hc => ?_
  simp only [ccG, Option.some.injEq, Prod.mk.injEq] at hg
  obtain ⟨rfl, rfl⟩ := hg
  obtain ⟨a, rfl, wa⟩ := isC_spec (hc (isC x) (by simp))
  obtain ⟨b, rfl, wb⟩ := isC_spec (hc (isC x2) (by simp))
  rw [toChg_chD, toChg_chD]
  exact h a b wa wb
theorem mc_c (a b : Chg) (ha : Chg.ok a) (hb : Chg.ok b) : C Try.prog 39 [.d (chD a), .d (chD b)] [] (fun r o => r = .d (.int .i64 (cmpC a b)) ∧ o = []) := by
  have ok := cfT_ok t2_ok
  refine C_of_run (fn := Try.f39) (body := mcC) true (by kernel_rfl) (by kernel_rfl) (by kernel_rfl) ?_
  rcases Bool.eq_false_or_eq_true (Plain.cmpS a.1 b.1 != 0 : Bool) with h12 | h12
  · skip
    exact WK.fin ok 1000 0 [(10, RV.d (DV.int Go.IntKind.i64 (Plain.cmpS a.1 b.1))), (18, RV.d (DV.int Go.IntKind.i64 (Plain.cmpR a.2 b.2))), (12, RV.d (DV.bool true))] [] [(RV.d (DV.int Go.IntKind.i64 (Go.Lib.compareBytes a.1 b.1)), RV.d (DV.int Go.IntKind.i64 (Plain.cmpS a.1 b.1))), (RV.d (DV.bool (Plain.cmpS a.1 b.1 != 0)), RV.d (DV.bool true))] rfl (by kernel_rfl : runEnd (cfT t2) true _ 1000 0 _ _ (ini 19 [.d (chD a), .d (chD b)] []) = some (RV.d (DV.int Go.IntKind.i64 (Plain.cmpS a.1 b.1)), [], _, _)) trivial ⟨(by first | exact ov_S _ _ | exact ov_R a.k b.k), le_bool h12, trivial⟩ ⟨by unfold cmpC; first | rw [if_neg (by simpa using h12)] | rw [if_pos (by simpa using h12)], rfl⟩
  · skip
    exact WK.fin ok 1000 0 [(10, RV.d (DV.int Go.IntKind.i64 (Plain.cmpS a.1 b.1))), (18, RV.d (DV.int Go.IntKind.i64 (Plain.cmpR a.2 b.2))), (12, RV.d (DV.bool false))] [isR (DV.lst 3 (List.map vD a.2) false), isR (DV.lst 3 (List.map vD b.2) false)] [(RV.d (DV.int Go.IntKind.i64 (Go.Lib.compareBytes a.1 b.1)), RV.d (DV.int Go.IntKind.i64 (Plain.cmpS a.1 b.1))), (RV.d (DV.bool (Plain.cmpS a.1 b.1 != 0)), RV.d (DV.bool false)), (RV.d (DV.int Go.IntKind.i64 (Plain.cmpR (unR (rD a.k)) (unR (rD b.k)))), RV.d (DV.int Go.IntKind.i64 (Plain.cmpR a.2 b.2)))] rfl (by kernel_rfl : runEnd (cfT t2) true _ 1000 0 _ _ (ini 19 [.d (chD a), .d (chD b)] []) = some (RV.d (DV.int Go.IntKind.i64 (Plain.cmpR a.2 b.2)), [], _, _)) (by refine ⟨?_, ?_, trivial⟩ <;> (first | exact ok_k ha | exact ok_k hb)) (by refine ⟨?_, le_bool h12, ?_, trivial⟩ <;> (first | exact ov_S _ _ | exact ov_R a.k b.k)) ⟨by unfold cmpC; first | rw [if_neg (by simpa using h12)] | rw [if_pos (by simpa using h12)], rfl⟩
theorem ro_c (a b : Chg) (ha : Chg.ok a) (hb : Chg.ok b) : C Try.prog 59 [.d (chD a), .d (chD b)] [] (fun r o => r = .d (.int .i64 (cmpC a b)) ∧ o = []) := by
  have ok := cfT_ok t2_ok
  refine C_of_run (fn := Try.f59) (body := roC) true (by kernel_rfl) (by kernel_rfl) (by kernel_rfl) ?_
  rcases Bool.eq_false_or_eq_true (Plain.cmpS a.1 b.1 != 0 : Bool) with h12 | h12
  · skip
    exact WK.fin ok 1000 0 [(10, RV.d (DV.int Go.IntKind.i64 (Plain.cmpS a.1 b.1))), (18, RV.d (DV.int Go.IntKind.i64 (Plain.cmpR a.2 b.2))), (12, RV.d (DV.bool true))] [] [(RV.d (DV.int Go.IntKind.i64 (Go.Lib.compareBytes a.1 b.1)), RV.d (DV.int Go.IntKind.i64 (Plain.cmpS a.1 b.1))), (RV.d (DV.bool (Plain.cmpS a.1 b.1 != 0)), RV.d (DV.bool true))] rfl (by kernel_rfl : runEnd (cfT t2) true _ 1000 0 _ _ (ini 19 [.d (chD a), .d (chD b)] []) = some (RV.d (DV.int Go.IntKind.i64 (Plain.cmpS a.1 b.1)), [], _, _)) trivial ⟨(by first | exact ov_S _ _ | exact ov_R a.k b.k), le_bool h12, trivial⟩ ⟨by unfold cmpC; first | rw [if_neg (by simpa using h12)] | rw [if_pos (by simpa using h12)], rfl⟩
  · skip
    exact WK.fin ok 1000 0 [(10, RV.d (DV.int Go.IntKind.i64 (Plain.cmpS a.1 b.1))), (18, RV.d (DV.int Go.IntKind.i64 (Plain.cmpR a.2 b.2))), (12, RV.d (DV.bool false))] [isR (DV.lst 3 (List.map vD a.2) false), isR (DV.lst 3 (List.map vD b.2) false)] [(RV.d (DV.int Go.IntKind.i64 (Go.Lib.compareBytes a.1 b.1)), RV.d (DV.int Go.IntKind.i64 (Plain.cmpS a.1 b.1))), (RV.d (DV.bool (Plain.cmpS a.1 b.1 != 0)), RV.d (DV.bool false)), (RV.d (DV.int Go.IntKind.i64 (Plain.cmpR (unR (rD a.k)) (unR (rD b.k)))), RV.d (DV.int Go.IntKind.i64 (Plain.cmpR a.2 b.2)))] rfl (by kernel_rfl : runEnd (cfT t2) true _ 1000 0 _ _ (ini 19 [.d (chD a), .d (chD b)] []) = some (RV.d (DV.int Go.IntKind.i64 (Plain.cmpR a.2 b.2)), [], _, _)) (by refine ⟨?_, ?_, trivial⟩ <;> (first | exact ok_k ha | exact ok_k hb)) (by refine ⟨?_, le_bool h12, ?_, trivial⟩ <;> (first | exact ov_S _ _ | exact ov_R a.k b.k)) ⟨by unfold cmpC; first | rw [if_neg (by simpa using h12)] | rw [if_pos (by simpa using h12)], rfl⟩

noncomputable def t3 : List (Nat × Ent) := (60, e2 eqG) :: t2
theorem t3_ok : EntsOk Try.prog t3 := .cons (eqG_ent same_c) t2_ok
theorem rowB_iff {l : List Val} : rowB l = true ↔ (putRow l).2 = 0 := by simp [rowB]
theorem my_c (a : Chg) (ha : Chg.ok a) : C Try.prog 38 [.d (chD a)] [] (fun r o => r = .d (.bool (mayC a)) ∧ o = []) := by
  have ok := cfT_ok t3_ok
  refine C_of_run (fn := Try.f38) (body := myC) true (by kernel_rfl) (by kernel_rfl) (by kernel_rfl) ?_
  have hkk : okRow (a.k.map vD) = true := okRow_map ha.2.1 ha.1.1
  have hoo : okRow (a.o.map vD) = true := okRow_map ha.2.2.1 ha.1.2.1
  have hnn : okRow (a.n.map vD) = true := okRow_map ha.2.2.2 ha.1.2.2
  have hml : (a.k.map vD).length = a.k.length := List.length_map ..
  by_cases c1 : a.t.length < 1
  · skip
    exact WK.fin ok 1000 0 [(10, RV.d (DV.bool true))] [] [(RV.d (DV.bool (decide ((Nat.cast (R := Int) (List.length a.t)) < 1))), RV.d (DV.bool true))] rfl (by kernel_rfl : runEnd (cfT t3) true _ 1000 0 _ _ (ini 48 [.d (chD a)] []) = some (RV.d (DV.bool false), [], _, _)) trivial ⟨(by exact le_bool (decide_eq_true (by omega))), trivial⟩ ⟨by have : ¬ 1 ≤ a.t.length := (by omega); simp [mayC, this], rfl⟩
  by_cases c2 : 32 < a.t.length
  · skip
    exact WK.fin ok 1000 0 [(10, RV.d (DV.bool false)), (15, RV.d (DV.bool true))] [] [(RV.d (DV.bool (decide ((Nat.cast (R := Int) (List.length a.t)) < 1))), RV.d (DV.bool false)), (RV.d (DV.bool (decide (32 < (Nat.cast (R := Int) (List.length a.t))))), RV.d (DV.bool true))] rfl (by kernel_rfl : runEnd (cfT t3) true _ 1000 0 _ _ (ini 48 [.d (chD a)] []) = some (RV.d (DV.bool false), [], _, _)) trivial (by refine ⟨?_, ?_, trivial⟩ <;> (first | exact le_bool (decide_eq_true (by omega)) | exact le_bool (decide_eq_false (by omega)))) ⟨by have : ¬ a.t.length ≤ 32 := (by omega); simp [mayC, this], rfl⟩
  by_cases c3 : a.k.length < 1
  · skip
    exact WK.fin ok 1000 0 [(10, RV.d (DV.bool false)), (15, RV.d (DV.bool false)), (21, RV.d (DV.bool true))] [] [(RV.d (DV.bool (decide ((Nat.cast (R := Int) (List.length a.t)) < 1))), RV.d (DV.bool false)), (RV.d (DV.bool (decide (32 < (Nat.cast (R := Int) (List.length a.t))))), RV.d (DV.bool false)), (RV.d (DV.bool (decide ((Nat.cast (R := Int) (List.map vD a.k).length) < 1))), RV.d (DV.bool true))] rfl (by kernel_rfl : runEnd (cfT t3) true _ 1000 0 _ _ (ini 48 [.d (chD a)] []) = some (RV.d (DV.bool false), [], _, _)) trivial (by refine ⟨?_, ?_, ?_, trivial⟩ <;> (first | exact le_bool (decide_eq_true (by omega)) | exact le_bool (decide_eq_false (by omega)))) ⟨by have : ¬ 1 ≤ a.k.length := (by omega); simp [mayC, this], rfl⟩
  have g1 : decide (1 ≤ a.t.length) = true := decide_eq_true (by omega)
  have g2 : decide (a.t.length ≤ 32) = true := decide_eq_true (by omega)
  have g3 : decide (1 ≤ a.k.length) = true := decide_eq_true (by omega)
  have hm : mayC a = (!decide (a.o = a.n) && rowB a.k && rowB a.o && rowB a.n) := by simp only [mayC, g1, g2, g3, Bool.true_and]
  rw [hm]
  have bad : ∀ {l : List Val}, ((putRow (toRow (l.map vD))).2 != 0) = true → rowB l = false := fun {l} h => by
    rw [toRow_map] at h; simpa [rowB] using h
  have good : ∀ {l : List Val}, ((putRow (toRow (l.map vD))).2 != 0) = false → rowB l = true := fun {l} h => by
    rw [toRow_map] at h; simpa [rowB] using h
  have w3 : WK Try.prog 0 (stackAt myC 0) (myS a 3).den (Ends (Try.f38.results.toList) (.d (.bool true))) := by
    exact WK.fin ok 1000 0 [] [] [] rfl (by kernel_rfl : runEnd (cfT t3) true _ 1000 0 _ _ (myS a 3) = some (RV.d (DV.bool true), [], _, _)) trivial trivial ⟨rfl, rfl⟩
  have w2 : WK Try.prog 0 (stackAt myC 0) (myS a 2).den (Ends (Try.f38.results.toList) (.d (.bool (rowB a.n)))) := by
    rcases Bool.eq_false_or_eq_true ((Plain.putRow (toRow (List.map vD a.n))).2 != 0 : Bool) with h46 | h46
    · skip
      exact WK.fin ok 1000 0 [(46, RV.d (DV.bool true))] [true, okRow (List.map vD a.4), true] [(RV.d (DV.bool ((Plain.putRow (toRow (List.map vD a.n))).2 != 0)), RV.d (DV.bool true))] rfl (by kernel_rfl : runEnd (cfT t3) true _ 1000 0 _ _ (myS a 2) = some (RV.d (DV.bool false), [], _, _)) (by refine ⟨?_, ?_, ?_, trivial⟩ <;> (first | exact hnn | rfl)) ⟨le_bool h46, trivial⟩ ⟨by rw [bad h46], rfl⟩
    · skip
      refine WK.segA ok 1000 0 [(46, RV.d (DV.bool false))] [] [36, 37] [true, okRow (List.map vD a.4), true] [(RV.d (DV.bool ((Plain.putRow (toRow (List.map vD a.n))).2 != 0)), RV.d (DV.bool false))] rfl (by kernel_rfl : runSegA (cfT t3) 1000 0 _ _ _ _ (myS a 2) = some (stackAt myC 0, myS a 3, _, _)) (by refine ⟨?_, ?_, ?_, trivial⟩ <;> (first | exact hnn | rfl)) ⟨le_bool h46, trivial⟩ ?_
      rw [good h46]; exact w3
  have w1 : WK Try.prog 0 (stackAt myC 0) (myS a 1).den (Ends (Try.f38.results.toList) (.d (.bool (rowB a.o && rowB a.n)))) := by
    rcases Bool.eq_false_or_eq_true ((Plain.putRow (toRow (List.map vD a.o))).2 != 0 : Bool) with h46 | h46
    · skip
      exact WK.fin ok 1000 0 [(46, RV.d (DV.bool true))] [true, okRow (List.map vD a.3), true] [(RV.d (DV.bool ((Plain.putRow (toRow (List.map vD a.o))).2 != 0)), RV.d (DV.bool true))] rfl (by kernel_rfl : runEnd (cfT t3) true _ 1000 0 _ _ (myS a 1) = some (RV.d (DV.bool false), [], _, _)) (by refine ⟨?_, ?_, ?_, trivial⟩ <;> (first | exact hoo | rfl)) ⟨le_bool h46, trivial⟩ ⟨by rw [bad h46]; rfl, rfl⟩
    · skip
      refine WK.segA ok 1000 0 [(46, RV.d (DV.bool false))] [] [36, 37] [true, okRow (List.map vD a.3), true] [(RV.d (DV.bool ((Plain.putRow (toRow (List.map vD a.o))).2 != 0)), RV.d (DV.bool false))] rfl (by kernel_rfl : runSegA (cfT t3) 1000 0 _ _ _ _ (myS a 1) = some (stackAt myC 0, myS a 2, _, _)) (by refine ⟨?_, ?_, ?_, trivial⟩ <;> (first | exact hoo | rfl)) ⟨le_bool h46, trivial⟩ ?_
      rw [good h46, Bool.true_and]; exact w2
  have w0 : WK Try.prog 0 (stackAt myC 0) (myS a 0).den (Ends (Try.f38.results.toList) (.d (.bool (rowB a.k && rowB a.o && rowB a.n)))) := by
    rcases Bool.eq_false_or_eq_true ((Plain.putRow (toRow (List.map vD a.k))).2 != 0 : Bool) with h46 | h46
    · skip
      exact WK.fin ok 1000 0 [(46, RV.d (DV.bool true))] [true, okRow (List.map vD a.2), true] [(RV.d (DV.bool ((Plain.putRow (toRow (List.map vD a.k))).2 != 0)), RV.d (DV.bool true))] rfl (by kernel_rfl : runEnd (cfT t3) true _ 1000 0 _ _ (myS a 0) = some (RV.d (DV.bool false), [], _, _)) (by refine ⟨?_, ?_, ?_, trivial⟩ <;> (first | exact hkk | rfl)) ⟨le_bool h46, trivial⟩ ⟨by rw [bad h46]; rfl, rfl⟩
    · skip
      refine WK.segA ok 1000 0 [(46, RV.d (DV.bool false))] [] [36, 37] [true, okRow (List.map vD a.2), true] [(RV.d (DV.bool ((Plain.putRow (toRow (List.map vD a.k))).2 != 0)), RV.d (DV.bool false))] rfl (by kernel_rfl : runSegA (cfT t3) 1000 0 _ _ _ _ (myS a 0) = some (stackAt myC 0, myS a 1, _, _)) (by refine ⟨?_, ?_, ?_, trivial⟩ <;> (first | exact hkk | rfl)) ⟨le_bool h46, trivial⟩ ?_
      rw [good h46, Bool.true_and]; exact w1
  rcases Bool.eq_false_or_eq_true (decide (a.o = a.n) : Bool) with h29 | h29
  · skip
    exact WK.fin ok 1000 0 [(10, RV.d (DV.bool false)), (15, RV.d (DV.bool false)), (21, RV.d (DV.bool false)), (28, RV.d (DV.bool (decide (a.o = a.n)))), (29, RV.d (DV.bool true))] [isR (DV.lst 3 (List.map vD a.3) false), isR (DV.lst 3 (List.map vD a.4) false)] [(RV.d (DV.bool (decide ((Nat.cast (R := Int) (List.length a.t)) < 1))), RV.d (DV.bool false)), (RV.d (DV.bool (decide (32 < (Nat.cast (R := Int) (List.length a.t))))), RV.d (DV.bool false)), (RV.d (DV.bool (decide ((Nat.cast (R := Int) (List.map vD a.k).length) < 1))), RV.d (DV.bool false)), (RV.d (DV.bool (decide (unR (rD a.o) = unR (rD a.n)))), RV.d (DV.bool (decide (a.o = a.n)))), (RV.d (DV.bool (decide (a.o = a.n))), RV.d (DV.bool true))] rfl (by kernel_rfl : runEnd (cfT t3) true _ 1000 0 _ _ (ini 48 [.d (chD a)] []) = some (RV.d (DV.bool false), [], _, _)) (by refine ⟨?_, ?_, trivial⟩ <;> (first | exact ok_o ha | exact ok_n ha)) (by refine ⟨?_, ?_, ?_, ?_, le_bool h29, trivial⟩ <;> (first | exact ov_E a.o a.n | exact le_bool (decide_eq_true (by omega)) | exact le_bool (decide_eq_false (by omega)))) ⟨by rw [h29]; rfl, rfl⟩
  · skip
    refine WK.segA ok 1000 0 [(10, RV.d (DV.bool false)), (15, RV.d (DV.bool false)), (21, RV.d (DV.bool false)), (28, RV.d (DV.bool (decide (a.o = a.n)))), (29, RV.d (DV.bool false))] [] [36, 37] [isR (DV.lst 3 (List.map vD a.3) false), isR (DV.lst 3 (List.map vD a.4) false)] [(RV.d (DV.bool (decide ((Nat.cast (R := Int) (List.length a.t)) < 1))), RV.d (DV.bool false)), (RV.d (DV.bool (decide (32 < (Nat.cast (R := Int) (List.length a.t))))), RV.d (DV.bool false)), (RV.d (DV.bool (decide ((Nat.cast (R := Int) (List.map vD a.k).length) < 1))), RV.d (DV.bool false)), (RV.d (DV.bool (decide (unR (rD a.o) = unR (rD a.n)))), RV.d (DV.bool (decide (a.o = a.n)))), (RV.d (DV.bool (decide (a.o = a.n))), RV.d (DV.bool false))] rfl (by kernel_rfl : runSegA (cfT t3) 1000 0 _ _ _ _ (ini 48 [.d (chD a)] []) = some (stackAt myC 0, myS a 0, _, _)) (by refine ⟨?_, ?_, trivial⟩ <;> (first | exact ok_o ha | exact ok_n ha)) (by refine ⟨?_, ?_, ?_, ?_, le_bool h29, trivial⟩ <;> (first | exact ov_E a.o a.n | exact le_bool (decide_eq_true (by omega)) | exact le_bool (decide_eq_false (by omega)))) ?_
    rw [h29]
    simp only [Bool.not_false, Bool.true_and]
    exact w0
theorem my_ent : EntOk Try.prog 38 (e1 myG) := by
  refine e1_ok fun x y c hg hc => ?_
  simp only [myG, Option.some.injEq, Prod.mk.injEq] at hg
  obtain ⟨rfl, rfl⟩ := hg
  obtain ⟨a, rfl, wa⟩ := isC_spec (hc (isC x) (by simp))
  rw [toChg_chD]
  exact my_c a wa
noncomputable def t4 : List (Nat × Ent) := (38, e1 myG) :: (39, e2 ccG) :: t3
theorem t4_ok : EntsOk Try.prog t4 := .cons my_ent (.cons (ccG_ent mc_c) t3_ok)

/-- what stands ahead of a place -/
def ahead (l : List Chg) : Nat → Option Chg
  | 0 => none
  | i + 1 => l[i]?
theorem mayI_cons (p : Option Chg) (x : Chg) (r : List Chg) : mayI p (x :: r) = (mayC x && (match p with | none => true | some y => decide (cmpC y x < 0)) && mayI (some x) r) := by cases p <;> rfl
theorem mayI_drop {l : List Chg} {i : Nat} (h : i < l.length) : mayI (ahead l i) (l.drop i) = (mayC l[i] && (match ahead l i with | none => true | some y => decide (cmpC y l[i] < 0)) && mayI (ahead l (i + 1)) (l.drop (i + 1))) := by
  rw [List.drop_eq_getElem_cons h, mayI_cons]
  simp only [ahead, List.getElem?_eq_getElem h]
theorem ck_c (l : List Chg) (hl : okL l) : C Try.prog 17 [.d (chL l)] [] (fun r o => r = .d (.int .i64 (if mayL l then 0 else 2)) ∧ o = []) := by
  have ok := cfT_ok t4_ok
  refine C_of_run (fn := Try.f17) (body := ckC) true (by kernel_rfl) (by kernel_rfl) (by kernel_rfl) ?_
  have hml : (l.map chD).length = l.length := List.length_map ..
  have hok := hl.2
  have hloop : l.length ≤ 1000 → WK Try.prog 0 (stackAt ckC 0) (ckS (l.map chD) 0).den (Ends (Try.f17.results.toList) (.d (.int .i64 (if mayL l then 0 else 2)))) := by
    intro hlen
    have hmay : mayL l = mayI none l := by simp [mayL, hlen]
    rw [hmay]
    refine WK.rec' (fun i => ckS (l.map chD) i) (fun i => i ≤ l.length ∧ mayI (ahead l i) (l.drop i) = mayI none l) (fun i => l.length - i) ?_ 0 ⟨Nat.zero_le _, rfl⟩
    rintro i ⟨hi, ht⟩ ih
    obtain ⟨x, hx⟩ := at_chg l i
    have hxo : i < l.length → Chg.ok x := fun h => by rw [← hx h]; exact hok _ (List.getElem_mem h)
    have hend : decide ((Nat.cast (R := Int) i) < (Nat.cast (R := Int) (l.map chD).length)) = false → mayI none l = true := fun h => by
      rw [← ht, List.drop_eq_nil_of_le (ge_map h)]; rfl
    have hstep : i < l.length → mayI none l = (mayC x && (match ahead l i with | none => true | some y => decide (cmpC y x < 0)) && mayI (ahead l (i + 1)) (l.drop (i + 1))) := fun h => by
      rw [← ht, mayI_drop h, hx h]
    by_cases hm : mayC x = true
    · cases i with
      | zero =>
        rcases Bool.eq_false_or_eq_true (decide ((Nat.cast (R := Int) 0) < (Nat.cast (R := Int) (l.map chD).length)) : Bool) with h11 | h11
        · skip
          refine WK.segA ok 1000 0 [(13, RV.iptr (DV.agg [DV.str x.1, DV.lst 3 (List.map vD x.2) false, DV.lst 3 (List.map vD x.3) false, DV.lst 3 (List.map vD x.4) false]) 0), (16, RV.d (DV.bool true)), (20, RV.d (DV.bool false)), (31, RV.d (DV.bool false)), (32, RV.d (DV.int Go.IntKind.i64 (Nat.cast (R := Int) (0 + 1)))), (11, RV.d (DV.bool true))] [] [0, 8, 9, 10] [decide (0 ≤ (Nat.cast (R := Int) 0) ∧ (Nat.cast (R := Int) 0) < (Nat.cast (R := Int) (l.map chD).length)), isC (DV.agg [DV.str x.1, DV.lst 3 (List.map vD x.2) false, DV.lst 3 (List.map vD x.3) false, DV.lst 3 (List.map vD x.4) false])] [(RV.d (DV.bool (decide ((Nat.cast (R := Int) 0) < (Nat.cast (R := Int) (l.map chD).length)))), RV.d (DV.bool true)), (RV.iptr ((l.map chD).getD (Nat.cast (R := Int) 0).toNat DV.nilp) 0, RV.iptr (DV.agg [DV.str x.1, DV.lst 3 (List.map vD x.2) false, DV.lst 3 (List.map vD x.3) false, DV.lst 3 (List.map vD x.4) false]) 0), (RV.d (DV.bool (Plain.mayC { t := x.1, k := List.map toVal (List.map vD x.k), o := List.map toVal (List.map vD x.o), n := List.map toVal (List.map vD x.n) })), RV.d (DV.bool true)), (RV.d (DV.bool (decide (0 < (Nat.cast (R := Int) 0)))), RV.d (DV.bool false)), (RV.d (DV.bool (match !true with | true => true | false => false)), RV.d (DV.bool false)), (RV.d (DV.int Go.IntKind.i64 (Go.IntKind.i64.wrap ((Nat.cast (R := Int) 0) + 1))), RV.d (DV.int Go.IntKind.i64 (Nat.cast (R := Int) (0 + 1))))] rfl (by kernel_rfl : runSegA (cfT t4) 1000 0 _ _ _ _ (ckS (l.map chD) 0) = some (stackAt ckC 0, ckS (l.map chD) (0 + 1), _, _)) (by refine ⟨?_, ?_, trivial⟩ <;> (first | exact bd_map (i := 0) (lt_map h11) | exact isC_chD (hxo (lt_map h11)))) (by refine ⟨le_bool h11, ?_, ?_, ?_, ?_, ?_, trivial⟩ <;> (first | exact ov_chg (i := 0) (lt_map h11) (hx (lt_map h11)) | exact ov_M hm | exact ov_succ (by omega) | exact le_bool rfl)) ?_
          have hlt := lt_map h11
          refine ih (0 + 1) ⟨hlt, ?_⟩ (by omega)
          rw [hstep hlt, hm]; simp [ahead]
        · skip
          exact WK.fin ok 1000 0 [(13, RV.iptr (DV.agg [DV.str x.1, DV.lst 3 (List.map vD x.2) false, DV.lst 3 (List.map vD x.3) false, DV.lst 3 (List.map vD x.4) false]) 0), (16, RV.d (DV.bool true)), (20, RV.d (DV.bool false)), (31, RV.d (DV.bool false)), (32, RV.d (DV.int Go.IntKind.i64 (Nat.cast (R := Int) (0 + 1)))), (11, RV.d (DV.bool false))] [] [(RV.d (DV.bool (decide ((Nat.cast (R := Int) 0) < (Nat.cast (R := Int) (l.map chD).length)))), RV.d (DV.bool false))] rfl (by kernel_rfl : runEnd (cfT t4) true _ 1000 0 _ _ (ckS (l.map chD) 0) = some (RV.d (DV.int Go.IntKind.i64 (0)), [], _, _)) trivial ⟨le_bool h11, trivial⟩ ⟨by rw [hend h11]; rfl, rfl⟩
      | succ m =>
        obtain ⟨y, hy⟩ := at_chg l m
        have hah : m < l.length → ahead l (m + 1) = some y := fun h => by rw [ahead, List.getElem?_eq_getElem h, hy h]
        have hbad : m + 1 < l.length → 0 ≤ cmpC y x → mayI none l = false := fun h e => by
          rw [hstep h, hah (by omega)]
          simp only
          rw [decide_eq_false (by omega : ¬ cmpC y x < 0), Bool.and_false, Bool.false_and]
        have hyo : m < l.length → Chg.ok y := fun h => by rw [← hy h]; exact hok _ (List.getElem_mem h)
        rcases Bool.eq_false_or_eq_true (decide ((Nat.cast (R := Int) (m + 1)) < (Nat.cast (R := Int) (l.map chD).length)) : Bool) with h11 | h11
        · skip
          rcases Bool.eq_false_or_eq_true (match !true with | true => true | false => bif true then decide (0 ≤ Plain.cmpC y x) else false : Bool) with h31 | h31
          · skip
            exact WK.fin ok 1000 0 [(13, RV.iptr (DV.agg [DV.str x.1, DV.lst 3 (List.map vD x.2) false, DV.lst 3 (List.map vD x.3) false, DV.lst 3 (List.map vD x.4) false]) 0), (16, RV.d (DV.bool true)), (20, RV.d (DV.bool true)), (24, RV.d (DV.int Go.IntKind.i64 (Nat.cast (R := Int) m))), (25, RV.iptr (DV.agg [DV.str y.1, DV.lst 3 (List.map vD y.2) false, DV.lst 3 (List.map vD y.3) false, DV.lst 3 (List.map vD y.4) false]) 0), (28, RV.d (DV.int Go.IntKind.i64 (Plain.cmpC y x))), (32, RV.d (DV.int Go.IntKind.i64 (Nat.cast (R := Int) ((m + 1) + 1)))), (11, RV.d (DV.bool true)), (31, RV.d (DV.bool true))] [decide (0 ≤ (Nat.cast (R := Int) (m + 1)) ∧ (Nat.cast (R := Int) (m + 1)) < (Nat.cast (R := Int) (l.map chD).length)), isC (DV.agg [DV.str x.1, DV.lst 3 (List.map vD x.2) false, DV.lst 3 (List.map vD x.3) false, DV.lst 3 (List.map vD x.4) false]), decide (0 ≤ (Nat.cast (R := Int) m) ∧ (Nat.cast (R := Int) m) < (Nat.cast (R := Int) (l.map chD).length)), isC (DV.agg (List.take 4 (List.drop 0 (DV.agg [DV.str y.1, DV.lst 3 (List.map vD y.2) false, DV.lst 3 (List.map vD y.3) false, DV.lst 3 (List.map vD y.4) false]).cells))), isC (DV.agg [DV.str x.1, DV.lst 3 (List.map vD x.2) false, DV.lst 3 (List.map vD x.3) false, DV.lst 3 (List.map vD x.4) false])] [(RV.d (DV.bool (decide ((Nat.cast (R := Int) (m + 1)) < (Nat.cast (R := Int) (l.map chD).length)))), RV.d (DV.bool true)), (RV.iptr ((l.map chD).getD (Nat.cast (R := Int) (m + 1)).toNat DV.nilp) 0, RV.iptr (DV.agg [DV.str x.1, DV.lst 3 (List.map vD x.2) false, DV.lst 3 (List.map vD x.3) false, DV.lst 3 (List.map vD x.4) false]) 0), (RV.d (DV.bool (Plain.mayC { t := x.1, k := List.map toVal (List.map vD x.k), o := List.map toVal (List.map vD x.o), n := List.map toVal (List.map vD x.n) })), RV.d (DV.bool true)), (RV.d (DV.bool (decide (0 < (Nat.cast (R := Int) (m + 1))))), RV.d (DV.bool true)), (RV.d (DV.int Go.IntKind.i64 (Go.IntKind.i64.wrap ((Nat.cast (R := Int) (m + 1)) - 1))), RV.d (DV.int Go.IntKind.i64 (Nat.cast (R := Int) m))), (RV.iptr ((l.map chD).getD (Nat.cast (R := Int) m).toNat DV.nilp) 0, RV.iptr (DV.agg [DV.str y.1, DV.lst 3 (List.map vD y.2) false, DV.lst 3 (List.map vD y.3) false, DV.lst 3 (List.map vD y.4) false]) 0), (RV.d (DV.int Go.IntKind.i64 (Plain.cmpC { t := y.1, k := List.map toVal (List.map vD y.k), o := List.map toVal (List.map vD y.o), n := List.map toVal (List.map vD y.n) } { t := x.1, k := List.map toVal (List.map vD x.k), o := List.map toVal (List.map vD x.o), n := List.map toVal (List.map vD x.n) })), RV.d (DV.int Go.IntKind.i64 (Plain.cmpC y x))), (RV.d (DV.bool (match !true with | true => true | false => bif true then decide (0 ≤ Plain.cmpC y x) else false)), RV.d (DV.bool true))] rfl (by kernel_rfl : runEnd (cfT t4) true _ 1000 0 _ _ (ckS (l.map chD) (m + 1)) = some (RV.d (DV.int Go.IntKind.i64 (2)), [], _, _)) (by refine ⟨?_, ?_, ?_, ?_, ?_, trivial⟩ <;> (have hlt := lt_map h11; first | exact bd_map hlt | exact isC_chD (hxo hlt) | exact bd_map (i := m) (by omega) | exact isC_chD (hyo (by omega)))) (by refine ⟨le_bool h11, ?_, ?_, ?_, ?_, ?_, ?_, le_bool h31, trivial⟩ <;> (have hlt := lt_map h11; first | exact ov_chg hlt (hx hlt) | exact ov_M hm | exact ov_succ (by omega) | exact ov_chg (i := m) (by omega) (hy (by omega)) | exact ov_C y x | exact le_bool (decide_eq_true (by omega)) | (refine .of_eq ?_; rw [i64_in _ (by omega)]; congr 2; omega) | exact le_bool h31)) ⟨by first | (rw [hend h11]; rfl) | (rw [hbad (lt_map h11) (of_decide_eq_true h31)]; rfl), rfl⟩
          · skip
            refine WK.segA ok 1000 0 [(13, RV.iptr (DV.agg [DV.str x.1, DV.lst 3 (List.map vD x.2) false, DV.lst 3 (List.map vD x.3) false, DV.lst 3 (List.map vD x.4) false]) 0), (16, RV.d (DV.bool true)), (20, RV.d (DV.bool true)), (24, RV.d (DV.int Go.IntKind.i64 (Nat.cast (R := Int) m))), (25, RV.iptr (DV.agg [DV.str y.1, DV.lst 3 (List.map vD y.2) false, DV.lst 3 (List.map vD y.3) false, DV.lst 3 (List.map vD y.4) false]) 0), (28, RV.d (DV.int Go.IntKind.i64 (Plain.cmpC y x))), (32, RV.d (DV.int Go.IntKind.i64 (Nat.cast (R := Int) ((m + 1) + 1)))), (11, RV.d (DV.bool true)), (31, RV.d (DV.bool false))] [] [0, 8, 9, 10] [decide (0 ≤ (Nat.cast (R := Int) (m + 1)) ∧ (Nat.cast (R := Int) (m + 1)) < (Nat.cast (R := Int) (l.map chD).length)), isC (DV.agg [DV.str x.1, DV.lst 3 (List.map vD x.2) false, DV.lst 3 (List.map vD x.3) false, DV.lst 3 (List.map vD x.4) false]), decide (0 ≤ (Nat.cast (R := Int) m) ∧ (Nat.cast (R := Int) m) < (Nat.cast (R := Int) (l.map chD).length)), isC (DV.agg (List.take 4 (List.drop 0 (DV.agg [DV.str y.1, DV.lst 3 (List.map vD y.2) false, DV.lst 3 (List.map vD y.3) false, DV.lst 3 (List.map vD y.4) false]).cells))), isC (DV.agg [DV.str x.1, DV.lst 3 (List.map vD x.2) false, DV.lst 3 (List.map vD x.3) false, DV.lst 3 (List.map vD x.4) false])] [(RV.d (DV.bool (decide ((Nat.cast (R := Int) (m + 1)) < (Nat.cast (R := Int) (l.map chD).length)))), RV.d (DV.bool true)), (RV.iptr ((l.map chD).getD (Nat.cast (R := Int) (m + 1)).toNat DV.nilp) 0, RV.iptr (DV.agg [DV.str x.1, DV.lst 3 (List.map vD x.2) false, DV.lst 3 (List.map vD x.3) false, DV.lst 3 (List.map vD x.4) false]) 0), (RV.d (DV.bool (Plain.mayC { t := x.1, k := List.map toVal (List.map vD x.k), o := List.map toVal (List.map vD x.o), n := List.map toVal (List.map vD x.n) })), RV.d (DV.bool true)), (RV.d (DV.bool (decide (0 < (Nat.cast (R := Int) (m + 1))))), RV.d (DV.bool true)), (RV.d (DV.int Go.IntKind.i64 (Go.IntKind.i64.wrap ((Nat.cast (R := Int) (m + 1)) - 1))), RV.d (DV.int Go.IntKind.i64 (Nat.cast (R := Int) m))), (RV.iptr ((l.map chD).getD (Nat.cast (R := Int) m).toNat DV.nilp) 0, RV.iptr (DV.agg [DV.str y.1, DV.lst 3 (List.map vD y.2) false, DV.lst 3 (List.map vD y.3) false, DV.lst 3 (List.map vD y.4) false]) 0), (RV.d (DV.int Go.IntKind.i64 (Plain.cmpC { t := y.1, k := List.map toVal (List.map vD y.k), o := List.map toVal (List.map vD y.o), n := List.map toVal (List.map vD y.n) } { t := x.1, k := List.map toVal (List.map vD x.k), o := List.map toVal (List.map vD x.o), n := List.map toVal (List.map vD x.n) })), RV.d (DV.int Go.IntKind.i64 (Plain.cmpC y x))), (RV.d (DV.bool (match !true with | true => true | false => bif true then decide (0 ≤ Plain.cmpC y x) else false)), RV.d (DV.bool false)), (RV.d (DV.int Go.IntKind.i64 (Go.IntKind.i64.wrap ((Nat.cast (R := Int) (m + 1)) + 1))), RV.d (DV.int Go.IntKind.i64 (Nat.cast (R := Int) ((m + 1) + 1))))] rfl (by kernel_rfl : runSegA (cfT t4) 1000 0 _ _ _ _ (ckS (l.map chD) (m + 1)) = some (stackAt ckC 0, ckS (l.map chD) (m + 1 + 1), _, _)) (by refine ⟨?_, ?_, ?_, ?_, ?_, trivial⟩ <;> (have hlt := lt_map h11; first | exact bd_map hlt | exact isC_chD (hxo hlt) | exact bd_map (i := m) (by omega) | exact isC_chD (hyo (by omega)))) (by refine ⟨le_bool h11, ?_, ?_, ?_, ?_, ?_, ?_, le_bool h31, ?_, trivial⟩ <;> (have hlt := lt_map h11; first | exact ov_chg hlt (hx hlt) | exact ov_M hm | exact ov_succ (by omega) | exact ov_chg (i := m) (by omega) (hy (by omega)) | exact ov_C y x | exact le_bool (decide_eq_true (by omega)) | (refine .of_eq ?_; rw [i64_in _ (by omega)]; congr 2; omega) | exact le_bool h31)) ?_
            have hlt := lt_map h11
            refine ih (m + 1 + 1) ⟨hlt, ?_⟩ (by omega)
            have e : decide (0 ≤ cmpC y x) = false := h31
            have e2 := of_decide_eq_false e
            rw [hstep hlt, hah (by omega), hm]
            simp only
            rw [decide_eq_true (by omega : cmpC y x < 0)]; rfl
        · skip
          exact WK.fin ok 1000 0 [(13, RV.iptr (DV.agg [DV.str x.1, DV.lst 3 (List.map vD x.2) false, DV.lst 3 (List.map vD x.3) false, DV.lst 3 (List.map vD x.4) false]) 0), (16, RV.d (DV.bool true)), (20, RV.d (DV.bool true)), (24, RV.d (DV.int Go.IntKind.i64 (Nat.cast (R := Int) m))), (25, RV.iptr (DV.agg [DV.str y.1, DV.lst 3 (List.map vD y.2) false, DV.lst 3 (List.map vD y.3) false, DV.lst 3 (List.map vD y.4) false]) 0), (28, RV.d (DV.int Go.IntKind.i64 (Plain.cmpC y x))), (32, RV.d (DV.int Go.IntKind.i64 (Nat.cast (R := Int) ((m + 1) + 1)))), (11, RV.d (DV.bool false))] [] [(RV.d (DV.bool (decide ((Nat.cast (R := Int) (m + 1)) < (Nat.cast (R := Int) (l.map chD).length)))), RV.d (DV.bool false))] rfl (by kernel_rfl : runEnd (cfT t4) true _ 1000 0 _ _ (ckS (l.map chD) (m + 1)) = some (RV.d (DV.int Go.IntKind.i64 (0)), [], _, _)) trivial ⟨le_bool h11, trivial⟩ ⟨by first | (rw [hend h11]; rfl) | (rw [hbad (lt_map h11) (of_decide_eq_true h31)]; rfl), rfl⟩
    · have hm' : mayC x = false := by simpa using hm
      rcases Bool.eq_false_or_eq_true (decide ((Nat.cast (R := Int) i) < (Nat.cast (R := Int) (l.map chD).length)) : Bool) with h11 | h11
      · skip
        exact WK.fin ok 1000 0 [(13, RV.iptr (DV.agg [DV.str x.1, DV.lst 3 (List.map vD x.2) false, DV.lst 3 (List.map vD x.3) false, DV.lst 3 (List.map vD x.4) false]) 0), (16, RV.d (DV.bool false)), (11, RV.d (DV.bool true))] [decide (0 ≤ (Nat.cast (R := Int) i) ∧ (Nat.cast (R := Int) i) < (Nat.cast (R := Int) (l.map chD).length)), isC (DV.agg [DV.str x.1, DV.lst 3 (List.map vD x.2) false, DV.lst 3 (List.map vD x.3) false, DV.lst 3 (List.map vD x.4) false])] [(RV.d (DV.bool (decide ((Nat.cast (R := Int) i) < (Nat.cast (R := Int) (l.map chD).length)))), RV.d (DV.bool true)), (RV.iptr ((l.map chD).getD (Nat.cast (R := Int) i).toNat DV.nilp) 0, RV.iptr (DV.agg [DV.str x.1, DV.lst 3 (List.map vD x.2) false, DV.lst 3 (List.map vD x.3) false, DV.lst 3 (List.map vD x.4) false]) 0), (RV.d (DV.bool (Plain.mayC { t := x.1, k := List.map toVal (List.map vD x.k), o := List.map toVal (List.map vD x.o), n := List.map toVal (List.map vD x.n) })), RV.d (DV.bool false))] rfl (by kernel_rfl : runEnd (cfT t4) true _ 1000 0 _ _ (ckS (l.map chD) i) = some (RV.d (DV.int Go.IntKind.i64 (2)), [], _, _)) (by refine ⟨?_, ?_, trivial⟩ <;> (have hlt := lt_map h11; first | exact bd_map hlt | exact isC_chD (hxo hlt))) (by refine ⟨le_bool h11, ?_, ?_, trivial⟩ <;> (have hlt := lt_map h11; first | exact ov_chg hlt (hx hlt) | exact ov_M hm')) ⟨by first | (rw [hend h11]; rfl) | (have e : mayI none l = false := (by rw [hstep (lt_map h11), hm']; rfl); rw [e]; rfl), rfl⟩
      · skip
        exact WK.fin ok 1000 0 [(13, RV.iptr (DV.agg [DV.str x.1, DV.lst 3 (List.map vD x.2) false, DV.lst 3 (List.map vD x.3) false, DV.lst 3 (List.map vD x.4) false]) 0), (16, RV.d (DV.bool false)), (11, RV.d (DV.bool false))] [] [(RV.d (DV.bool (decide ((Nat.cast (R := Int) i) < (Nat.cast (R := Int) (l.map chD).length)))), RV.d (DV.bool false))] rfl (by kernel_rfl : runEnd (cfT t4) true _ 1000 0 _ _ (ckS (l.map chD) i) = some (RV.d (DV.int Go.IntKind.i64 (0)), [], _, _)) trivial ⟨le_bool h11, trivial⟩ ⟨by first | (rw [hend h11]; rfl) | (have e : mayI none l = false := (by rw [hstep (lt_map h11), hm']; rfl); rw [e]; rfl), rfl⟩
  rcases Bool.eq_false_or_eq_true (decide (1000 < (Nat.cast (R := Int) (l.map chD).length)) : Bool) with h7 | h7
  · skip
    exact WK.fin ok 1000 0 [(7, RV.d (DV.bool true))] [] [(RV.d (DV.bool (decide (1000 < (Nat.cast (R := Int) (l.map chD).length)))), RV.d (DV.bool true))] rfl (by kernel_rfl : runEnd (cfT t4) true _ 1000 0 _ _ (ini 33 [.d (chL l)] []) = some (RV.d (DV.int Go.IntKind.i64 (2)), [], _, _)) trivial ⟨le_bool h7, trivial⟩ ⟨by have e := of_decide_eq_true h7; have e2 : ¬ l.length ≤ 1000 := (by omega); simp [mayL, e2], rfl⟩
  · skip
    refine WK.segA ok 1000 0 [(7, RV.d (DV.bool false))] [] [0, 8, 9, 10] [] [(RV.d (DV.bool (decide (1000 < (Nat.cast (R := Int) (l.map chD).length)))), RV.d (DV.bool false))] rfl (by kernel_rfl : runSegA (cfT t4) 1000 0 _ _ _ _ (ini 33 [.d (chL l)] []) = some (stackAt ckC 0, ckS (l.map chD) 0, _, _)) trivial ⟨le_bool h7, trivial⟩ ?_
    have e := of_decide_eq_false h7
    exact hloop (by omega)
theorem ck_ent : EntOk Try.prog 17 (e1 ckG) := by
  refine e1_ok fun x y c hg hc => ?_
  simp only [ckG, Option.some.injEq, Prod.mk.injEq] at hg
  obtain ⟨rfl, rfl⟩ := hg
  obtain ⟨l, rfl, hl⟩ := isL_spec (hc (isL x) (by simp))
  rw [unL_chL]
  exact ck_c l hl
end Go.Proofs.Ytljfolepmkcjlaa
