/-
  rebase.Upon and rebase.Meets; the law's bound on sizes (great).
-/
import Derived.Test.YtljfolepmkcjlaaC7
namespace Go.Proofs.Ytljfolepmkcjlaa
open Go.RowKit Plain Am IntWalk
set_option maxRecDepth 100000
set_option linter.unusedVariables false
set_option linter.unusedSimpArgs false

/-- what going over both lists gives -/
def metV : Ent := fun a o => match a, o with
  | [.d x, .d y, .clo (.func f) [] [.ptr 0 0, .ptr 1 0]], [.box b [.d (.bool win)], .box l [.d (.lst 0 [] true)]] => bif Nat.beq f 32 then
      some (.d (.int .i64 (meetE (unL x) (unL y))), [.box b [.d (.bool win)], .box l [.own 2 4], .arr 46 4 ((meetO (upF win) (unL x) (unL y)).map chD)], [isL x, isL y, Nat.beq b 4, Nat.beq l 22]) else none
  | [.d x, .d y, .clo (.func f) [] [.ptr 0 0]], [.box l [.d (.lst 0 [] true)]] => bif Nat.beq f 37 then
      some (.d (.int .i64 (meetE (unL x) (unL y))), [.box l [.own 1 4], .arr 46 4 ((meetO meF (unL x) (unL y)).map chD)], [isL x, isL y, Nat.beq l 22]) else none
  | _, _ => none
def upE : Ent := fun a o => match a, o with
  | [.d x, .d y, .d (.bool win)], [] => some (.tup [.d (chL (meetR (upF win) (unL x) (unL y)).1), .d (.int .i64 (meetR (upF win) (unL x) (unL y)).2)], [], [isL x, isL y])
  | _, _ => none
def ruE : Ent := fun a o => match a, o with
  | [.d x, .d y, .d (.bool win)], [] => some (.tup [.d (chL (meetQ (upF win) (unL x) (unL y)).1), .d (.int .i64 (meetQ (upF win) (unL x) (unL y)).2)], [], [isL x, isL y])
  | _, _ => none
def msE : Ent := fun a o => match a, o with
  | [.d x, .d y], [] => some (.tup [.d (chL (meetR meF (unL x) (unL y)).1), .d (.int .i64 (meetR meF (unL x) (unL y)).2)], [], [isL x, isL y])
  | _, _ => none
def rmE : Ent := fun a o => match a, o with
  | [.d x, .d y], [] => some (.tup [.d (chL (meetQ meF (unL x) (unL y)).1), .d (.int .i64 (meetQ meF (unL x) (unL y)).2)], [], [isL x, isL y])
  | _, _ => none
noncomputable abbrev grC : Code := bodyOf Try.f11
def grS (l : List DV) (n i : Int) : ESt := { n := 61, m := 0, regs := T.mk [(0, .d (.lst 4 l false)), (3, .d (.int .i64 n)), (10, .d (.lst 4 l false)), (11, .d (.int .i64 (l.length : Int))), (12, .d (.int .i64 i))], objs := T.mk [] }
def grR (l : List DV) (n i : Int) (c : Chg) (j : Int) : ESt := { n := 61, m := 0, regs := T.mk [(0, .d (.lst 4 l false)), (3, .d (.int .i64 n)), (5, .ptr 200 0), (10, .d (.lst 4 l false)), (11, .d (.int .i64 (l.length : Int))), (12, .d (.int .i64 i)), (22, .d (.agg [rD c.k, rD c.o, rD c.n])), (23, .d (.int .i64 j))], objs := T.mk [(200, .box 46 [.d (.str c.t), .d (rD c.k), .d (rD c.o), .d (rD c.n)])] }
def grV (l : List DV) (n i : Int) (c : Chg) (j : Int) (row : List DV) (q : Int) : ESt := { n := 61, m := 0, regs := T.mk [(0, .d (.lst 4 l false)), (3, .d (.int .i64 n)), (5, .ptr 200 0), (10, .d (.lst 4 l false)), (11, .d (.int .i64 (l.length : Int))), (12, .d (.int .i64 i)), (22, .d (.agg [rD c.k, rD c.o, rD c.n])), (23, .d (.int .i64 j)), (34, .d (.lst 3 row false)), (35, .d (.int .i64 (row.length : Int))), (36, .d (.int .i64 q))], objs := T.mk [(200, .box 46 [.d (.str c.t), .d (rD c.k), .d (rD c.o), .d (rD c.n)])] }
theorem metV_ent : EntOk Try.prog 31 metV := by
  intro a o r o' c hg hc
  unfold metV at hg
  split at hg
  · rename_i x y f b win l
    cases hf : Nat.beq f 32 with
    | false => rw [hf] at hg; simp at hg
    | true =>
      rw [hf] at hg
      simp only [cond_true, Option.some.injEq, Prod.mk.injEq] at hg
      obtain ⟨rfl, rfl, rfl⟩ := hg
      have e1 := nbE hf
      have e2 := nbE (hc (Nat.beq b 4) (by simp))
      have e3 := nbE (hc (Nat.beq l 22) (by simp))
      subst e1 e2 e3
      obtain ⟨a, rfl, ha⟩ := isL_spec (hc (isL x) (by simp))
      obtain ⟨b, rfl, hb⟩ := isL_spec (hc (isL y) (by simp))
      rw [unL_chL, unL_chL]
      exact meU_c a b ha hb win
  · rename_i x y f l
    cases hf : Nat.beq f 37 with
    | false => rw [hf] at hg; simp at hg
    | true =>
      rw [hf] at hg
      simp only [cond_true, Option.some.injEq, Prod.mk.injEq] at hg
      obtain ⟨rfl, rfl, rfl⟩ := hg
      have e1 := nbE hf
      have e3 := nbE (hc (Nat.beq l 22) (by simp))
      subst e1 e3
      obtain ⟨a, rfl, ha⟩ := isL_spec (hc (isL x) (by simp))
      obtain ⟨b, rfl, hb⟩ := isL_spec (hc (isL y) (by simp))
      rw [unL_chL, unL_chL]
      exact meM_c a b ha hb
  · cases hg
noncomputable def td : List (Nat × Ent) := [(31, metV)]
theorem td_ok : EntsOk Try.prog td := .cons metV_ent .nil
theorem ov_ME {ours th : List Chg} {e : Int} (h : meetE ours th = e) : RVle (.d (.int .i64 (meetE (unL (chL ours)) (unL (chL th))))) (.d (.int .i64 e)) := .of_eq (by rw [unL_chL, unL_chL, h])
theorem up_c (ours th : List Chg) (win : Bool) (ho : okL ours) (ht : okL th) : C Try.prog 12 [.d (chL ours), .d (chL th), .d (.bool win)] [] (fun r o => r = .tup [.d (chL (meetR (upF win) ours th).1), .d (.int .i64 (meetR (upF win) ours th).2)] ∧ o = []) := by
  have ok := cfT_ok td_ok
  refine C_of_run (fn := Try.f12) (body := upC) true (by kernel_rfl) (by kernel_rfl) (by kernel_rfl) ?_
  rw [meetR_OE]
  by_cases he : meetE ours th = 0
  · rw [he, if_pos rfl]
    exact WK.fin ok 1000 0 [(13, RV.d (DV.int Go.IntKind.i64 (0)))] [isL (DV.lst 4 (List.map chD ours) false), isL (DV.lst 4 (List.map chD th) false), true, true] [(RV.d (DV.int Go.IntKind.i64 (meetE (unL (chL ours)) (unL (chL th)))), RV.d (DV.int Go.IntKind.i64 (0)))] rfl (by kernel_rfl : runEnd (cfT td) true _ 1000 0 _ _ (ini 18 [.d (chL ours), .d (chL th), .d (.bool win)] []) = some (RV.tup [RV.d (DV.lst 4 (List.map chD (meetO (Plain.upF win) (unL (chL ours)) (unL (chL th)))) false), RV.d (DV.int Go.IntKind.i64 (0))], [], _, _)) (by refine ⟨?_, ?_, ?_, ?_, trivial⟩ <;> (first | rfl | exact isL_chL ho | exact isL_chL ht)) ⟨(by exact ov_ME he), trivial⟩ ⟨by rw [unL_chL, unL_chL]; rfl, rfl⟩
  · rw [if_neg he]
    obtain ⟨e, hE⟩ : ∃ e, meetE ours th = e := ⟨_, rfl⟩
    rw [hE] at he ⊢
    exact WK.fin ok 1000 0 [(13, RV.d (DV.int Go.IntKind.i64 e)), (15, RV.d (DV.bool true)), (6, RV.d (DV.lst 4 [] false))] [isL (DV.lst 4 (List.map chD ours) false), isL (DV.lst 4 (List.map chD th) false), true, true] [(RV.d (DV.lst 0 [] true), RV.d (DV.lst 4 [] false)), (RV.d (DV.int Go.IntKind.i64 (meetE (unL (chL ours)) (unL (chL th)))), RV.d (DV.int Go.IntKind.i64 e)), (RV.d (DV.bool (e != 0)), RV.d (DV.bool true)), (RV.d (DV.lst 0 [] true), RV.d (DV.lst 4 [] false))] rfl (by kernel_rfl : runEnd (cfT td) true _ 1000 0 _ _ (ini 18 [.d (chL ours), .d (chL th), .d (.bool win)] []) = some (RV.tup [RV.d (DV.lst 4 [] false), RV.d (DV.int Go.IntKind.i64 e)], [], _, _)) (by refine ⟨?_, ?_, ?_, ?_, trivial⟩ <;> (first | rfl | exact isL_chL ho | exact isL_chL ht)) (by refine ⟨?_, ?_, ?_, ?_, trivial⟩ <;> (first | exact ov_ME hE | exact nil_le | exact le_bool (by simpa using he))) ⟨rfl, rfl⟩
theorem ms_c (ours th : List Chg) (ho : okL ours) (ht : okL th) : C Try.prog 14 [.d (chL ours), .d (chL th)] [] (fun r o => r = .tup [.d (chL (meetR meF ours th).1), .d (.int .i64 (meetR meF ours th).2)] ∧ o = []) := by
  have ok := cfT_ok td_ok
  refine C_of_run (fn := Try.f14) (body := msC) true (by kernel_rfl) (by kernel_rfl) (by kernel_rfl) ?_
  rw [meetR_OE]
  by_cases he : meetE ours th = 0
  · rw [he, if_pos rfl]
    exact WK.fin ok 1000 0 [(11, RV.d (DV.int Go.IntKind.i64 (0)))] [isL (DV.lst 4 (List.map chD ours) false), isL (DV.lst 4 (List.map chD th) false), true] [(RV.d (DV.int Go.IntKind.i64 (meetE (unL (chL ours)) (unL (chL th)))), RV.d (DV.int Go.IntKind.i64 (0)))] rfl (by kernel_rfl : runEnd (cfT td) true _ 1000 0 _ _ (ini 16 [.d (chL ours), .d (chL th)] []) = some (RV.tup [RV.d (DV.lst 4 (List.map chD (meetO Plain.meF (unL (chL ours)) (unL (chL th)))) false), RV.d (DV.int Go.IntKind.i64 (0))], [], _, _)) (by refine ⟨?_, ?_, ?_, trivial⟩ <;> (first | rfl | exact isL_chL ho | exact isL_chL ht)) ⟨(by exact ov_ME he), trivial⟩ ⟨by rw [unL_chL, unL_chL]; rfl, rfl⟩
  · rw [if_neg he]
    obtain ⟨e, hE⟩ : ∃ e, meetE ours th = e := ⟨_, rfl⟩
    rw [hE] at he ⊢
    exact WK.fin ok 1000 0 [(11, RV.d (DV.int Go.IntKind.i64 e)), (13, RV.d (DV.bool true)), (4, RV.d (DV.lst 4 [] false))] [isL (DV.lst 4 (List.map chD ours) false), isL (DV.lst 4 (List.map chD th) false), true] [(RV.d (DV.lst 0 [] true), RV.d (DV.lst 4 [] false)), (RV.d (DV.int Go.IntKind.i64 (meetE (unL (chL ours)) (unL (chL th)))), RV.d (DV.int Go.IntKind.i64 e)), (RV.d (DV.bool (e != 0)), RV.d (DV.bool true)), (RV.d (DV.lst 0 [] true), RV.d (DV.lst 4 [] false))] rfl (by kernel_rfl : runEnd (cfT td) true _ 1000 0 _ _ (ini 16 [.d (chL ours), .d (chL th)] []) = some (RV.tup [RV.d (DV.lst 4 [] false), RV.d (DV.int Go.IntKind.i64 e)], [], _, _)) (by refine ⟨?_, ?_, ?_, trivial⟩ <;> (first | rfl | exact isL_chL ho | exact isL_chL ht)) (by refine ⟨?_, ?_, ?_, ?_, trivial⟩ <;> (first | exact ov_ME hE | exact nil_le | exact le_bool (by simpa using he))) ⟨rfl, rfl⟩
theorem up_ent : EntOk Try.prog 12 upE := by
  intro a o r o' c hg hc
  unfold upE at hg
  split at hg
  · rename_i x y win
    simp only [Option.some.injEq, Prod.mk.injEq] at hg
    obtain ⟨rfl, rfl, rfl⟩ := hg
    obtain ⟨a, rfl, ha⟩ := isL_spec (hc (isL x) (by simp))
    obtain ⟨b, rfl, hb⟩ := isL_spec (hc (isL y) (by simp))
    rw [unL_chL, unL_chL]
    exact up_c a b win ha hb
  · cases hg
theorem ru_ent : EntOk Try.prog 13 ruE := by
  intro a o r o' c hg hc
  unfold ruE at hg
  split at hg
  · rename_i x y win
    simp only [Option.some.injEq, Prod.mk.injEq] at hg
    obtain ⟨rfl, rfl, rfl⟩ := hg
    obtain ⟨a, rfl, ha⟩ := isL_spec (hc (isL x) (by simp))
    obtain ⟨b, rfl, hb⟩ := isL_spec (hc (isL y) (by simp))
    rw [unL_chL, unL_chL]
    exact ru_c a b win ha hb
  · cases hg
theorem ms_ent : EntOk Try.prog 14 msE := by
  intro a o r o' c hg hc
  unfold msE at hg
  split at hg
  · rename_i x y
    simp only [Option.some.injEq, Prod.mk.injEq] at hg
    obtain ⟨rfl, rfl, rfl⟩ := hg
    obtain ⟨a, rfl, ha⟩ := isL_spec (hc (isL x) (by simp))
    obtain ⟨b, rfl, hb⟩ := isL_spec (hc (isL y) (by simp))
    rw [unL_chL, unL_chL]
    exact ms_c a b ha hb
  · cases hg
theorem rm_ent : EntOk Try.prog 15 rmE := by
  intro a o r o' c hg hc
  unfold rmE at hg
  split at hg
  · rename_i x y
    simp only [Option.some.injEq, Prod.mk.injEq] at hg
    obtain ⟨rfl, rfl, rfl⟩ := hg
    obtain ⟨a, rfl, ha⟩ := isL_spec (hc (isL x) (by simp))
    obtain ⟨b, rfl, hb⟩ := isL_spec (hc (isL y) (by simp))
    rw [unL_chL, unL_chL]
    exact rm_c a b ha hb
  · cases hg

/-! ### great -/
def m16 (s : Bs) : Int := (if (8192 : Int) < (s.length : Int) then 8192 else (s.length : Int)).tdiv 16
theorem m16_b (s : Bs) : 0 ≤ m16 s ∧ m16 s ≤ 512 := by
  unfold m16
  split
  · decide
  · rw [Int.tdiv_eq_ediv_of_nonneg (by omega)]; omega
def sumV : Int → List Val → Int
  | n, [] => n
  | n, v :: r => sumV (n + m16 v.s) r
theorem sumV_app (b : List Val) : ∀ (a : List Val) (n : Int), sumV n (a ++ b) = sumV (sumV n a) b
  | [], _ => rfl
  | v :: r, n => sumV_app b r _
theorem sumV_b : ∀ (a : List Val) (n : Int), n ≤ sumV n a ∧ sumV n a ≤ n + 512 * a.length
  | [], n => by simp [sumV]
  | v :: r, n => by
    have h1 := sumV_b r (n + m16 v.s)
    have h2 := m16_b v.s
    simp only [sumV, List.length_cons]; omega
def addR (n : Int) (row : List Val) : Int := sumV (n + (2 + (row.length : Int))) row
theorem addR_b {n : Int} {row : List Val} (h : ¬ 40 < row.length) : n ≤ addR n row ∧ addR n row ≤ n + 20522 := by
  have := sumV_b row (n + (2 + (row.length : Int)))
  unfold addR; omega
def greatGo : Int → List Chg → Bool
  | _, [] => false
  | n, x :: r => decide (40 < x.k.length) || decide (40 < x.o.length) || decide (40 < x.n.length) || decide (3000 < addR (addR (addR n x.k) x.o) x.n) || decide (1024 < x.t.length) || greatGo (addR (addR (addR n x.k) x.o) x.n) r
def greatL (l : List Chg) : Bool := greatGo 0 l || decide (60 < l.length)
theorem greatGo_no : ∀ {l : List Chg} {n : Int}, greatGo n l = false → ∀ c ∈ l, c.k.length ≤ 40 ∧ c.o.length ≤ 40 ∧ c.n.length ≤ 40
  | [], _, _, c, hc => by simp at hc
  | x :: r, n, h, c, hc => by
    simp only [greatGo, Bool.or_eq_false_iff, decide_eq_false_iff_not] at h
    rcases List.mem_cons.1 hc with rfl | hc
    · omega
    · exact greatGo_no h.2 c hc
theorem great_no {l : List Chg} (h : greatL l = false) (hw : ∀ c ∈ l, c.wf) : okL l := by
  simp only [greatL, Bool.or_eq_false_iff, decide_eq_false_iff_not] at h
  refine ⟨by omega, fun c hc => ?_⟩
  have := greatGo_no h.1 c hc
  exact ⟨hw c hc, by omega, by omega, by omega⟩
abbrev EndsG (b : Bool) : SSt → Prop := Ends (Try.f11.results.toList) (.d (.bool b))
theorem dropG {L : List DV} {n i : Int} {x : Chg} {j : Int} {row : List DV} {q : Int} {st : List It} {Q : SSt → Prop} (h : WK Try.prog 0 st (grR L n i x j).den Q) : WK Try.prog 0 st (grV L n i x j row q).den Q :=
  doPost_wk (p := autoP [] [0, 3, 5, 10, 11, 12, 22, 23] (grV L n i x j row q)) (st := grV L n i x j row q) (st' := grR L n i x j) (by kernel_rfl) h
theorem gr_inner (L : List DV) (n : Int) (hn : 0 ≤ n ∧ n ≤ 1000000) (i : Nat) (x : Chg) (j : Nat) (hj : j ≤ 3) (row : List Val) (hr : row.length ≤ 40) (b : Bool)
    (hk : WK Try.prog 0 (stackAt grC 1) (grR L (sumV n row) (i : Int) x ((j + 1 : Nat) : Int)).den (EndsG b)) : WK Try.prog 0 (stackAt grC 2) (grV L n (i : Int) x (j : Int) (row.map vD) 0).den (EndsG b) := by
  have ok := cfT_ok (l := []) .nil
  have key := WK.rec' (P := Try.prog) (m := 0) (k := stackAt grC 2) (Q := EndsG b) (fun (q : Nat) => grV L (sumV n (row.take q)) (i : Int) x (j : Int) (row.map vD) (q : Int)) (fun q => q ≤ row.length) (fun q => row.length - q) ?_ 0 (Nat.zero_le _)
  · exact key
  intro q hq ih
  obtain ⟨v, hv⟩ := at_ex row q
  have hb := sumV_b (row.take q) n
  have hm := m16_b v.s
  have hbl : (row.take q).length ≤ 40 := by rw [List.length_take]; omega
  have hstep : q < row.length → sumV n (row.take (q + 1)) = sumV n (row.take q) + m16 v.s := fun h => by
    rw [List.take_add_one, List.getElem?_eq_getElem h, hv h, sumV_app]; rfl
  have hend : row.length ≤ q → sumV n (row.take q) = sumV n row := fun h => by rw [List.take_of_length_le h]
  obtain ⟨m, hmm⟩ : ∃ m, sumV n (row.take q) = m := ⟨_, rfl⟩
  simp only [hmm] at hb hstep hend ⊢
  rcases Bool.eq_false_or_eq_true (decide ((Nat.cast (R := Int) q) < (Nat.cast (R := Int) (row.map vD).length)) : Bool) with h37 | h37
  · skip
    have hrun : runSegA (cfT []) 1000 0 [(38, RV.iptr (DV.agg [DV.int Go.IntKind.u8 v.1, DV.int Go.IntKind.i64 v.2, DV.str v.3]) 0), (46, RV.d (DV.int Go.IntKind.i64 (m + m16 v.s))), (47, RV.d (DV.int Go.IntKind.i64 (Nat.cast (R := Int) (q + 1)))), (48, RV.d (DV.int Go.IntKind.i64 (Nat.cast (R := Int) (j + 1)))), (37, RV.d (DV.bool true))] [] [0, 3, 5, 10, 11, 12, 22, 23, 34, 35, 36] (stackAt grC 2) (grV L m (i : Int) x (j : Int) (row.map vD) (q : Int)) = some (stackAt grC 2, grV L (m + m16 v.s) (i : Int) x (Nat.cast (R := Int) j) (row.map vD) (Nat.cast (R := Int) (q + 1)), [decide (0 ≤ (Nat.cast (R := Int) q) ∧ (Nat.cast (R := Int) q) < (Nat.cast (R := Int) (row.map vD).length)), true], [(RV.d (DV.bool (decide ((Nat.cast (R := Int) q) < (Nat.cast (R := Int) (row.map vD).length)))), RV.d (DV.bool true)), (RV.iptr ((row.map vD).getD (Nat.cast (R := Int) q).toNat DV.nilp) 0, RV.iptr (DV.agg [DV.int Go.IntKind.u8 v.1, DV.int Go.IntKind.i64 v.2, DV.str v.3]) 0), (RV.d (DV.int Go.IntKind.i64 (Go.IntKind.i64.wrap (m + Go.IntKind.i64.wrap ((if 8192 < (Nat.cast (R := Int) (List.length v.s)) then 8192 else (Nat.cast (R := Int) (List.length v.3))).tdiv (16))))), RV.d (DV.int Go.IntKind.i64 (m + m16 v.s))), (RV.d (DV.int Go.IntKind.i64 (Go.IntKind.i64.wrap ((Nat.cast (R := Int) q) + 1))), RV.d (DV.int Go.IntKind.i64 (Nat.cast (R := Int) (q + 1))))]) := by kernel_rfl
    refine WK.segA (st := (grV L m (i : Int) x (j : Int) (row.map vD) (q : Int))) (st' := grV L (m + m16 v.s) (i : Int) x (Nat.cast (R := Int) j) (row.map vD) (Nat.cast (R := Int) (q + 1))) (k := (stackAt grC 2)) (k' := stackAt grC 2) ok 1000 0 _ _ _ _ _ rfl hrun (by refine ⟨?_, ?_, trivial⟩ <;> (first | rfl | exact bd_map (lt_map h37))) (by refine ⟨le_bool h37, ?_, ?_, ?_, trivial⟩ <;> (first | exact ov_val (lt_map h37) (hv (lt_map h37)) | (refine .of_eq (congrArg (fun z : Int => RV.d (.int .i64 z)) ?_); have e : IntKind.i64.wrap (m16 v.s) = m16 v.s := i64_in _ (by omega); show IntKind.i64.wrap (m + IntKind.i64.wrap (m16 v.s)) = m + m16 v.s; rw [e, i64_in _ (by omega)]) | exact ov_succ (by have := lt_map h37; omega) | exact ov_succ (by omega))) ?_
    first | (have hw := ih (q + 1) (lt_map h37) (by have := lt_map h37; omega); simp only [hstep (lt_map h37)] at hw; exact hw) | (rw [hend (ge_map h37)]; exact dropG hk)
  · skip
    have hrun : runSegA (cfT []) 1000 0 [(38, RV.iptr (DV.agg [DV.int Go.IntKind.u8 v.1, DV.int Go.IntKind.i64 v.2, DV.str v.3]) 0), (46, RV.d (DV.int Go.IntKind.i64 (m + m16 v.s))), (47, RV.d (DV.int Go.IntKind.i64 (Nat.cast (R := Int) (q + 1)))), (48, RV.d (DV.int Go.IntKind.i64 (Nat.cast (R := Int) (j + 1)))), (37, RV.d (DV.bool false))] [] [0, 3, 5, 10, 11, 12, 22, 23, 34, 35, 36] (stackAt grC 2) (grV L m (i : Int) x (j : Int) (row.map vD) (q : Int)) = some (stackAt grC 1, grV L m (i : Int) x (Nat.cast (R := Int) (j + 1)) (row.map vD) (Nat.cast (R := Int) q), [], [(RV.d (DV.bool (decide ((Nat.cast (R := Int) q) < (Nat.cast (R := Int) (row.map vD).length)))), RV.d (DV.bool false)), (RV.d (DV.int Go.IntKind.i64 (Go.IntKind.i64.wrap ((Nat.cast (R := Int) j) + 1))), RV.d (DV.int Go.IntKind.i64 (Nat.cast (R := Int) (j + 1))))]) := by kernel_rfl
    refine WK.segA (st := (grV L m (i : Int) x (j : Int) (row.map vD) (q : Int))) (st' := grV L m (i : Int) x (Nat.cast (R := Int) (j + 1)) (row.map vD) (Nat.cast (R := Int) q)) (k := (stackAt grC 2)) (k' := stackAt grC 1) ok 1000 0 _ _ _ _ _ rfl hrun trivial ⟨le_bool h37, (by first | exact ov_val (lt_map h37) (hv (lt_map h37)) | (refine .of_eq (congrArg (fun z : Int => RV.d (.int .i64 z)) ?_); have e : IntKind.i64.wrap (m16 v.s) = m16 v.s := i64_in _ (by omega); show IntKind.i64.wrap (m + IntKind.i64.wrap (m16 v.s)) = m + m16 v.s; rw [e, i64_in _ (by omega)]) | exact ov_succ (by have := lt_map h37; omega) | exact ov_succ (by omega)), trivial⟩ ?_
    first | (have hw := ih (q + 1) (lt_map h37) (by have := lt_map h37; omega); simp only [hstep (lt_map h37)] at hw; exact hw) | (rw [hend (ge_map h37)]; exact dropG hk)
theorem gr_c (l : List Chg) (hl : l.length ≤ 9223372036854775807) : C Try.prog 11 [.d (chL l)] [] (fun r o => r = .d (.bool (greatL l)) ∧ o = []) := by
  have ok := cfT_ok (l := []) .nil
  refine C_of_run (fn := Try.f11) (body := grC) true (by kernel_rfl) (by kernel_rfl) (by kernel_rfl) ?_
  have hloop : WK Try.prog 0 (stackAt grC 0) (grS (l.map chD) 0 0).den (EndsG (greatL l)) := by
    refine WK.rec' (fun (q : Int × Nat) => grS (l.map chD) q.1 (q.2 : Int)) (fun q => q.2 ≤ l.length ∧ (0 ≤ q.1 ∧ q.1 ≤ 3000) ∧ (greatGo q.1 (l.drop q.2) || decide (60 < l.length)) = greatL l) (fun q => l.length - q.2) ?_ (0, 0) ⟨Nat.zero_le _, ⟨by decide, by decide⟩, rfl⟩
    rintro ⟨n0, i⟩ ⟨hi, hn, hg⟩ ih
    simp only at hi hn hg ih ⊢
    obtain ⟨x, hx⟩ := at_chg l i
    have hend : decide ((Nat.cast (R := Int) i) < (Nat.cast (R := Int) (l.map chD).length)) = false → decide (60 < (Nat.cast (R := Int) (l.map chD).length)) = greatL l := fun h => by
      rw [← hg, List.drop_eq_nil_of_le (ge_map h), List.length_map]
      simp only [greatGo, Bool.false_or]
      apply Bool.eq_iff_iff.2; simp only [decide_eq_true_eq]; omega
    have hbody : i < l.length → WK Try.prog 0 (stackAt grC 1) (grR (l.map chD) n0 (i : Int) x 0).den (EndsG (greatL l)) := by
      intro hlt
      rw [List.drop_eq_getElem_cons hlt, hx hlt] at hg
      simp only [greatGo] at hg
      have hmk : (x.k.map vD).length = x.k.length := List.length_map ..
      have hmo : (x.o.map vD).length = x.o.length := List.length_map ..
      have hmn : (x.n.map vD).length = x.n.length := List.length_map ..
      have t1 : ∀ n : Int, n = n0 → 40 < x.k.length → WK Try.prog 0 (stackAt grC 1) (grR (l.map chD) n (i : Int) x 0).den (EndsG (greatL l)) := by
        intro n hnE c1
        have hG : greatL l = true := by rw [← hg]; simp [c1]
        exact WK.fin ok 1000 0 [(33, RV.d (DV.bool true))] [true] [(RV.d (DV.bool (decide (40 < (Nat.cast (R := Int) (List.map vD x.k).length)))), RV.d (DV.bool true))] rfl (by kernel_rfl : runEnd (cfT []) true _ 1000 0 _ _ (grR (l.map chD) n (i : Int) x 0) = some (RV.d (DV.bool true), [], _, _)) ⟨(by rfl), trivial⟩ ⟨(by exact le_bool (decide_eq_true (by omega))), trivial⟩ ⟨by rw [hG], rfl⟩
      by_cases c1 : 40 < x.k.length
      · exact t1 n0 rfl c1
      have b1 := addR_b (n := n0) c1
      have s1 : ∀ n : Int, n = addR n0 x.k → WK Try.prog 0 (stackAt grC 1) (grR (l.map chD) n (i : Int) x 1).den (EndsG (greatL l)) := by
        by_cases c2 : 40 < x.o.length
        · intro n hnE
          have hG : greatL l = true := by rw [← hg]; simp [c2]
          exact WK.fin ok 1000 0 [(33, RV.d (DV.bool true))] [true] [(RV.d (DV.bool (decide (40 < (Nat.cast (R := Int) (List.map vD x.o).length)))), RV.d (DV.bool true))] rfl (by kernel_rfl : runEnd (cfT []) true _ 1000 0 _ _ (grR (l.map chD) n (i : Int) x 1) = some (RV.d (DV.bool true), [], _, _)) ⟨(by rfl), trivial⟩ ⟨(by exact le_bool (decide_eq_true (by omega))), trivial⟩ ⟨by rw [hG], rfl⟩
        have b2 := addR_b (n := addR n0 x.k) c2
        have s2 : ∀ n : Int, n = addR (addR n0 x.k) x.o → WK Try.prog 0 (stackAt grC 1) (grR (l.map chD) n (i : Int) x 2).den (EndsG (greatL l)) := by
          by_cases c3 : 40 < x.n.length
          · intro n hnE
            have hG : greatL l = true := by rw [← hg]; simp [c3]
            exact WK.fin ok 1000 0 [(33, RV.d (DV.bool true))] [true] [(RV.d (DV.bool (decide (40 < (Nat.cast (R := Int) (List.map vD x.n).length)))), RV.d (DV.bool true))] rfl (by kernel_rfl : runEnd (cfT []) true _ 1000 0 _ _ (grR (l.map chD) n (i : Int) x 2) = some (RV.d (DV.bool true), [], _, _)) ⟨(by rfl), trivial⟩ ⟨(by exact le_bool (decide_eq_true (by omega))), trivial⟩ ⟨by rw [hG], rfl⟩
          have b3 := addR_b (n := addR (addR n0 x.k) x.o) c3
          have s3 : ∀ n : Int, n = addR (addR (addR n0 x.k) x.o) x.n → WK Try.prog 0 (stackAt grC 1) (grR (l.map chD) n (i : Int) x 3).den (EndsG (greatL l)) := by
            intro n hnE
            rw [← hnE] at hg b3
            by_cases c4 : 3000 < n
            · have hG : greatL l = true := by rw [← hg]; simp [c4]
              exact WK.fin ok 1000 0 [(50, RV.d (DV.bool true)), (56, RV.d (DV.bool true))] [] [(RV.d (DV.bool (decide (3000 < n))), RV.d (DV.bool true)), (RV.d (DV.bool true), RV.d (DV.bool true))] rfl (by kernel_rfl : runEnd (cfT []) true _ 1000 0 _ _ (grR (l.map chD) n (i : Int) x 3) = some (RV.d (DV.bool true), [], _, _)) trivial (by refine ⟨?_, ?_, trivial⟩ <;> (first | exact le_bool (decide_eq_true (by omega)) | exact le_bool rfl)) ⟨by rw [hG], rfl⟩
            · have hG : decide (1024 < x.t.length) = true → greatL l = true := fun h => by rw [← hg, h]; simp
              have hG2 : decide (1024 < x.t.length) = false → (greatGo n (l.drop (i + 1)) || decide (60 < l.length)) = greatL l := fun h => by rw [← hg, h]; simp [c1, c2, c3, c4]
              rcases Bool.eq_false_or_eq_true (decide (1024 < List.length x.t) : Bool) with h56 | h56
              · skip
                exact WK.fin ok 1000 0 [(50, RV.d (DV.bool false)), (55, RV.d (DV.bool (decide (1024 < List.length x.t)))), (57, RV.d (DV.int Go.IntKind.i64 (Nat.cast (R := Int) (i + 1)))), (56, RV.d (DV.bool true))] [] [(RV.d (DV.bool (decide (3000 < n))), RV.d (DV.bool false)), (RV.d (DV.bool (decide (1024 < (Nat.cast (R := Int) (List.length x.t))))), RV.d (DV.bool (decide (1024 < List.length x.t)))), (RV.d (DV.bool (decide (1024 < List.length x.t))), RV.d (DV.bool true))] rfl (by kernel_rfl : runEnd (cfT []) true _ 1000 0 _ _ (grR (l.map chD) n (i : Int) x 3) = some (RV.d (DV.bool true), [], _, _)) trivial (by refine ⟨?_, ?_, le_bool h56, trivial⟩ <;> (first | exact le_bool (decide_eq_false (by omega)) | (refine le_bool ?_; apply Bool.eq_iff_iff.2; simp only [decide_eq_true_eq]; omega) | (refine .of_eq (congrArg (fun z : Int => RV.d (.int .i64 z)) ?_); rw [i64_in _ (by omega)]; omega))) ⟨by rw [hG h56], rfl⟩
              · skip
                refine WK.segA ok 1000 0 [(50, RV.d (DV.bool false)), (55, RV.d (DV.bool (decide (1024 < List.length x.t)))), (57, RV.d (DV.int Go.IntKind.i64 (Nat.cast (R := Int) (i + 1)))), (56, RV.d (DV.bool false))] [] [0, 3, 10, 11, 12] [] [(RV.d (DV.bool (decide (3000 < n))), RV.d (DV.bool false)), (RV.d (DV.bool (decide (1024 < (Nat.cast (R := Int) (List.length x.t))))), RV.d (DV.bool (decide (1024 < List.length x.t)))), (RV.d (DV.bool (decide (1024 < List.length x.t))), RV.d (DV.bool false)), (RV.d (DV.int Go.IntKind.i64 (Go.IntKind.i64.wrap ((Nat.cast (R := Int) i) + 1))), RV.d (DV.int Go.IntKind.i64 (Nat.cast (R := Int) (i + 1))))] rfl (by kernel_rfl : runSegA (cfT []) 1000 0 _ _ _ _ (grR (l.map chD) n (i : Int) x 3) = some (stackAt grC 0, grS (l.map chD) n (Nat.cast (R := Int) (i + 1)), _, _)) trivial (by refine ⟨?_, ?_, le_bool h56, ?_, trivial⟩ <;> (first | exact le_bool (decide_eq_false (by omega)) | (refine le_bool ?_; apply Bool.eq_iff_iff.2; simp only [decide_eq_true_eq]; omega) | (refine .of_eq (congrArg (fun z : Int => RV.d (.int .i64 z)) ?_); rw [i64_in _ (by omega)]; omega))) ?_
                exact ih (n, i + 1) ⟨hlt, ⟨by simp only; omega, by simp only; omega⟩, hG2 h56⟩ (by simp only; omega)
          intro n hnE
          refine WK.segA ok 1000 0 [(33, RV.d (DV.bool false)), (30, RV.d (DV.int Go.IntKind.i64 (n + (2 + (x.n.length : Int)))))] [] [0, 3, 5, 10, 11, 12, 22, 23, 34, 35, 36] [true] [(RV.d (DV.int Go.IntKind.i64 (Go.IntKind.i64.wrap (n + Go.IntKind.i64.wrap (2 + (Nat.cast (R := Int) (List.map vD x.4).length))))), RV.d (DV.int Go.IntKind.i64 (n + (2 + (x.n.length : Int))))), (RV.d (DV.bool (decide (40 < (Nat.cast (R := Int) (List.map vD x.n).length)))), RV.d (DV.bool false))] rfl (by kernel_rfl : runSegA (cfT []) 1000 0 _ _ _ _ (grR (l.map chD) n (i : Int) x 2) = some (stackAt grC 2, grV (l.map chD) (n + (2 + (x.n.length : Int))) (i : Int) x 2 (x.n.map vD) 0, _, _)) ⟨(by rfl), trivial⟩ (by refine ⟨?_, ?_, trivial⟩ <;> (first | exact le_bool (decide_eq_false (by omega)) | (refine .of_eq (congrArg (fun z : Int => RV.d (.int .i64 z)) ?_); rw [hmn, i64_in (2 + (x.n.length : Int)) (by omega), i64_in _ (by omega)]))) ?_
          exact gr_inner (l.map chD) _ ⟨by omega, by omega⟩ i x 2 (by decide) x.n (by omega) _ (s3 _ (by rw [← hnE]; rfl))
        intro n hnE
        refine WK.segA ok 1000 0 [(33, RV.d (DV.bool false)), (30, RV.d (DV.int Go.IntKind.i64 (n + (2 + (x.o.length : Int)))))] [] [0, 3, 5, 10, 11, 12, 22, 23, 34, 35, 36] [true] [(RV.d (DV.int Go.IntKind.i64 (Go.IntKind.i64.wrap (n + Go.IntKind.i64.wrap (2 + (Nat.cast (R := Int) (List.map vD x.3).length))))), RV.d (DV.int Go.IntKind.i64 (n + (2 + (x.o.length : Int))))), (RV.d (DV.bool (decide (40 < (Nat.cast (R := Int) (List.map vD x.o).length)))), RV.d (DV.bool false))] rfl (by kernel_rfl : runSegA (cfT []) 1000 0 _ _ _ _ (grR (l.map chD) n (i : Int) x 1) = some (stackAt grC 2, grV (l.map chD) (n + (2 + (x.o.length : Int))) (i : Int) x 1 (x.o.map vD) 0, _, _)) ⟨(by rfl), trivial⟩ (by refine ⟨?_, ?_, trivial⟩ <;> (first | exact le_bool (decide_eq_false (by omega)) | (refine .of_eq (congrArg (fun z : Int => RV.d (.int .i64 z)) ?_); rw [hmo, i64_in (2 + (x.o.length : Int)) (by omega), i64_in _ (by omega)]))) ?_
        exact gr_inner (l.map chD) _ ⟨by omega, by omega⟩ i x 1 (by decide) x.o (by omega) _ (s2 _ (by rw [← hnE]; rfl))
      obtain ⟨n, hnE⟩ : ∃ n, n = n0 := ⟨_, rfl⟩
      rw [← hnE]
      refine WK.segA ok 1000 0 [(33, RV.d (DV.bool false)), (30, RV.d (DV.int Go.IntKind.i64 (n + (2 + (x.k.length : Int)))))] [] [0, 3, 5, 10, 11, 12, 22, 23, 34, 35, 36] [true] [(RV.d (DV.int Go.IntKind.i64 (Go.IntKind.i64.wrap (n + Go.IntKind.i64.wrap (2 + (Nat.cast (R := Int) (List.map vD x.2).length))))), RV.d (DV.int Go.IntKind.i64 (n + (2 + (x.k.length : Int))))), (RV.d (DV.bool (decide (40 < (Nat.cast (R := Int) (List.map vD x.k).length)))), RV.d (DV.bool false))] rfl (by kernel_rfl : runSegA (cfT []) 1000 0 _ _ _ _ (grR (l.map chD) n (i : Int) x 0) = some (stackAt grC 2, grV (l.map chD) (n + (2 + (x.k.length : Int))) (i : Int) x 0 (x.k.map vD) 0, _, _)) ⟨(by rfl), trivial⟩ (by refine ⟨?_, ?_, trivial⟩ <;> (first | exact le_bool (decide_eq_false (by omega)) | (refine .of_eq (congrArg (fun z : Int => RV.d (.int .i64 z)) ?_); rw [hmk, i64_in (2 + (x.k.length : Int)) (by omega), i64_in _ (by omega)]))) ?_
      exact gr_inner (l.map chD) _ ⟨by omega, by omega⟩ i x 0 (by decide) x.k (by omega) _ (s1 _ (by rw [← hnE]; rfl))
    obtain ⟨n, hnE⟩ : ∃ n, n = n0 := ⟨_, rfl⟩
    rw [← hnE] at hbody ⊢
    rcases Bool.eq_false_or_eq_true (decide ((Nat.cast (R := Int) i) < (Nat.cast (R := Int) (l.map chD).length)) : Bool) with h13 | h13
    · skip
      refine WK.segA ok 1000 0 [(14, RV.iptr (DV.agg [DV.str x.1, DV.lst 3 (List.map vD x.2) false, DV.lst 3 (List.map vD x.3) false, DV.lst 3 (List.map vD x.4) false]) 0), (13, RV.d (DV.bool true))] [] [0, 3, 5, 10, 11, 12, 22, 23] [decide (0 ≤ (Nat.cast (R := Int) i) ∧ (Nat.cast (R := Int) i) < (Nat.cast (R := Int) (l.map chD).length))] [(RV.d (DV.bool (decide ((Nat.cast (R := Int) i) < (Nat.cast (R := Int) (l.map chD).length)))), RV.d (DV.bool true)), (RV.iptr ((l.map chD).getD (Nat.cast (R := Int) i).toNat DV.nilp) 0, RV.iptr (DV.agg [DV.str x.1, DV.lst 3 (List.map vD x.2) false, DV.lst 3 (List.map vD x.3) false, DV.lst 3 (List.map vD x.4) false]) 0)] rfl (by kernel_rfl : runSegA (cfT []) 1000 0 _ _ _ _ (grS (l.map chD) n (i : Int)) = some (stackAt grC 1, grR (l.map chD) n (i : Int) x 0, _, _)) ⟨(by exact bd_map (lt_map h13)), trivial⟩ ⟨le_bool h13, (by exact ov_chg (lt_map h13) (hx (lt_map h13))), trivial⟩ ?_
      exact hbody (lt_map h13)
    · skip
      exact WK.fin ok 1000 0 [(14, RV.iptr (DV.agg [DV.str x.1, DV.lst 3 (List.map vD x.2) false, DV.lst 3 (List.map vD x.3) false, DV.lst 3 (List.map vD x.4) false]) 0), (13, RV.d (DV.bool false))] [] [(RV.d (DV.bool (decide ((Nat.cast (R := Int) i) < (Nat.cast (R := Int) (l.map chD).length)))), RV.d (DV.bool false))] rfl (by kernel_rfl : runEnd (cfT []) true _ 1000 0 _ _ (grS (l.map chD) n (i : Int)) = some (RV.d (DV.bool (decide (60 < (Nat.cast (R := Int) (l.map chD).length)))), [], _, _)) trivial ⟨le_bool h13, trivial⟩ ⟨by rw [hend h13], rfl⟩
  refine WK.segA ok 1000 0 [] [] [0, 3, 10, 11, 12] [] [] rfl (by kernel_rfl : runSegA (cfT []) 1000 0 _ _ _ _ (ini 61 [.d (chL l)] []) = some (stackAt grC 0, grS (l.map chD) 0 0, _, _)) trivial trivial ?_
  exact hloop
end Go.Proofs.Ytljfolepmkcjlaa
