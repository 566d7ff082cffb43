/-
  Texts that the claim leans on, one behind the other, part 9.
-/
import Derived.Test.YtljfolepmkcjlaaXk8
import Derived.WalkKit
import Derived.Below
import Derived.OwnWalk
import Derived.Deep.OwnRows
import Derived.Lib.SliceRun

/-
  slices.Clone, change.Merge, Concat, Invert, run.
-/
namespace Go.Proofs.Ytljfolepmkcjlaa
open Go.RowKit Plain Am IntWalk
set_option maxRecDepth 100000
set_option linter.unusedVariables false
set_option linter.unusedSimpArgs false

noncomputable abbrev clC : Code := bodyOf Try.f41
noncomputable abbrev mergC0 : Code := bodyOf Try.f26
noncomputable abbrev coC : Code := bodyOf Try.f19
noncomputable abbrev inC2 : Code := bodyOf Try.f28
def mrgE : Ent := fun a o => match a, o with
  | [.d x], [] => some (.tup [.d (chL (mrgC (unL x)).1), .d (.int .i64 (mrgC (unL x)).2)], [], [isL x, (unL x).all mayC, decide ((unL x).length ≤ 10000)])
  | _, _ => none
def mergE : Ent := fun a o => match a, o with
  | [.d x], [] => some (.tup [.d (chL (mergeC (unL x)).1), .d (.int .i64 (mergeC (unL x)).2)], [], [isL x, (unL x).all mayC, decide ((unL x).length ≤ 10000)])
  | _, _ => none
def cloneE : Ent := fun a o => match a, o with
  | [.d (.lst 4 els false)], [] => some (.own 0 4, [.arr chT 4 els], [isL (.lst 4 els false)])
  | _, _ => none
noncomputable def ts8 : List (Nat × Ent) := [(52, mrgE), (17, e1 ckG)]
noncomputable def ts9 : List (Nat × Ent) := [(26, mergE), (17, e1 ckG), (41, cloneE)]
def iv1 (out l : List DV) (i : Int) : ESt := { n := 36, m := 0, regs := T.mk [(5, .own 200 4), (15, .d (.lst 4 l false)), (16, .d (.int .i64 (l.length : Int))), (17, .d (.int .i64 i))], objs := T.mk [(200, .arr chT 4 out)] }
def cc1 (a b : List DV) (i : Int) : ESt := { n := 28, m := 0, regs := T.mk [(0, .d (.lst 4 a false)), (1, .d (.lst 4 b false)), (11, .d (.agg [.lst 4 a false, .lst 4 b false])), (12, .d (.int .i64 i))], objs := T.nil }
theorem info_chg : (Try.prog.info? 46).map (fun i => (i.zero, i.size, i.bytes)) = some (some (.agg #[.string ⟨#[]⟩, .slice none 0 0, .slice none 0 0, .slice none 0 0]), 4, 88) := by kernel_rfl
theorem clone_nil (n c : Nat) (w : World) : Calls Try.prog 41 #[.slice none n c] w fun e w' => e = .returned (.slice none 0 0) ∧ w' = w := by
  have q22 : ∀ (w : World) (a : Option Addr) (n c n' c' : Nat), (binOp .eql 22 (.slice a n c) (.slice none n' c')).run Try.prog w = .ok (.bool a.isNone) w := fun w a n c n' c' => Go.Lib.run_eql_slice_nil w _ _ a n c n' c' Try.underlying22
  go_enter Try.func41, Try.ntmps41
  go_wp2
  go_ret
  exact ⟨rfl, rfl⟩
set_option maxHeartbeats 2000000 in
theorem clone_zero (a : Addr) (c : Nat) (w : World) : Calls Try.prog 41 #[.slice (some a) 0 c] w fun e w' => ∃ v', e = .returned v' ∧ w'.ownsRow w.heap.size 46 4 v' 0 [] ∧ v' ≠ .slice none 0 0 ∧ Below w.heap.size w w' := by
  have q22 : ∀ (w : World) (a : Option Addr) (n c n' c' : Nat), (binOp .eql 22 (.slice a n c) (.slice none n' c')).run Try.prog w = .ok (.bool a.isNone) w := fun w a n c n' c' => Go.Lib.run_eql_slice_nil w _ _ a n c n' c' Try.underlying22
  have u22 : ∀ w, Sem.run Try.prog (underlying 22) w = .ok (TypeDesc.slice 46) w := run_underlying Try.underlying22
  obtain ⟨i0, hi, hz0, hz1, hz2⟩ := info_parts info_chg
  go_enter Try.func41, Try.ntmps41
  go_wp2_with (at_builtin; refine wpList_append_own _ rfl _ _ 22 rfl w.heap.size 46 i0 (.agg #[.string ⟨#[]⟩, .slice none 0 0, .slice none 0 0, .slice none 0 0]) 4 88 Try.underlying22 hi hz0 hz1 hz2 rfl (by decide) _ _ _ rfl (World.ownsRow_made w #[] 0 (Nat.le_refl _) (Nat.zero_le _) rfl) a 0 c [] rfl rfl (by intro j u hj; simp at hj) (by intro u hu; cases hu) (by unfold maxLen; omega) (by omega) (by simp) ?_)
  intro v' w1 hown hgrow hnil
  go_wp2
  go_ret
  refine ⟨v', rfl, by simpa using hown, ?_, ?_⟩
  · first | exact hnil | (intro e; exact absurd (hnil.1 e).1 (by simp))
  · exact ((Below.refl _ w).alloc (Nat.le_refl _) _).grown hgrow (by simp) (by intro k hk; simp [Value.ownBlock] at hk; omega)
theorem clone_e : C Try.prog 41 [.d (.lst 4 [] false)] [] (fun r o => r = .own 0 4 ∧ o = [.arr chT 4 []]) := by
  intro κ φ w vs h1 h2 h3 h4
  have hs : vs.size = 1 := by simpa using h3
  have e1 : vs[0]? = some vs[0] := by simp [show 0 < vs.size by omega]
  have r0 := h4 0 _ _ rfl e1
  have hvs : vs = #[vs[0]] := by
    apply Array.ext
    · simpa using hs
    · intro i hi hi2; simp at hi2; subst hi2; rfl
  rw [hvs]
  generalize vs[0] = v0 at r0
  clear e1 hvs
  have hun : ∀ i, φ i = .un := fun i => h1 i
  have fz : ∀ {φ' : Phi}, Kp φ (tabOf []) φ' (tabOf [.arr chT 4 []]) := ⟨fun i hi => absurd (hun i) hi, fun i n hi _ => absurd (hun i) hi⟩
  have hbase : ∃ base c, v0 = .slice base 0 c := by
    cases r0 with
    | d hr =>
    cases hr with
    | lst0 hf => exact ⟨_, _, rfl⟩
    | lst hκ hb hf hc hs hz hr => exact ⟨_, _, rfl⟩
  obtain ⟨base, c, rfl⟩ := hbase
  cases base with
  | none =>
    refine (clone_nil 0 c w).mono ?_
    rintro e w' ⟨rfl, rfl⟩
    refine ⟨_, .own 0 4, [.arr chT 4 []], κ, setP φ 0 .nil, rfl, ⟨rfl, rfl⟩, .ownNil (setP_same _ _ _), fun i => ?_, h2, by simp, Fr.refl _ _, fz⟩
    match i with
    | 0 => exact .inl ⟨setP_same _ _ _, rfl⟩
    | i + 1 => show setP φ 0 .nil (i + 1) = .un; rw [setP_ne _ _ (by omega)]; exact hun _
  | some a =>
    refine (clone_zero a c w).mono ?_
    rintro e w' ⟨v, rfl, ⟨_, ho⟩, hne, hB⟩
    rcases ho with ⟨rfl, _⟩ | ⟨g, cap, cur, rfl, hg, hc, h5, _, h6, h7⟩
    · exact absurd rfl hne
    have hlt : g < w'.heap.size := (Array.getElem?_eq_some_iff.1 hc).1
    have him : ∀ x, κ x ≠ .oth → x ≠ g := fun x hx e => by subst e; have := h2 x hx; omega
    have hk : ∀ x, x ≠ g → setK κ g (.own 0) x = κ x := fun x hx => by unfold setK; rw [if_neg hx]
    refine ⟨_, .own 0 4, [.arr chT 4 []], setK κ g (.own 0), setP φ 0 (.at g), rfl, ⟨rfl, rfl⟩, .own (setP_same _ _ _) hc (by omega) h5 (fun n hn => by simpa [tabOf, PObj.len?] using hn), fun i => ?_, fun x hx => ?_, by simp, ?_, fz⟩
    · match i with
      | 0 => exact .inr ⟨g, cur, (0, 0), setP_same _ _ _, by unfold setK; rw [if_pos rfl], hc, fzOk00 _, ⟨by intro x hx; simp at hx, by simp, by intro i x j y v hx; simp at hx⟩⟩
      | i + 1 => show setP φ 0 (.at g) (i + 1) = .un; rw [setP_ne _ _ (by omega)]; exact hun _
    · by_cases e : x = g
      · subst e; exact hlt
      · rw [hk x e] at hx; exact Nat.lt_of_lt_of_le (h2 x hx) hB.size
    · refine ⟨hB.size, fun x hx => ?_, fun x hxl hx => ?_, fun x c ty fz hx => ?_, hB.os, hB.output⟩
      · have e := him x (by rw [hx]; simp)
        exact ⟨by rw [hk x e]; exact hx, hB.block x (h2 x (by rw [hx]; simp))⟩
      · exact ⟨by rw [hk x (by omega)]; exact hx, hB.block x hxl⟩
      · have hxl : x < w.heap.size := (Array.getElem?_eq_some_iff.1 hx).1
        exact ⟨c, fz, by rw [hB.block x hxl]; exact hx, rfl⟩
theorem clone_c (L : List Chg) (hok : okL L) : C Try.prog 41 [.d (.lst 4 (L.map chD) false)] [] (fun r o => r = .own 0 4 ∧ o = [.arr chT 4 (L.map chD)]) := by
  cases L with
  | nil => exact clone_e
  | cons x r =>
    have ok := cfB_ok (l := []) .nil
    have hl := hok.1
    refine C_of_run (fn := Try.f41) (body := clC) false (by kernel_rfl) (by kernel_rfl) (by kernel_rfl) ?_
    obtain ⟨l, hll⟩ : ∃ l, r.map chD = l := ⟨_, rfl⟩
    obtain ⟨z, hz⟩ : ∃ z, chD x = z := ⟨_, rfl⟩
    have h1 : l.length ≤ 65536 := by rw [← hll, List.length_map]; simp at hl; omega
    rw [List.map_cons, hll, hz]
    have hrun : runEnd (cfB []) false (Try.f41.results.toList) 1000 0 [] [.code clC] (ini 8 [.d (.lst 4 (z :: l) false)] []) = some (.own 0 4, [.arr chT 4 ([] ++ z :: l)], [decide ((([] : List DV).length + (z :: l).length) * 88 ≤ 2 ^ 38)], []) := by kernel_rfl
    exact WK.fin ok 1000 0 _ _ _ rfl hrun ⟨decide_eq_true (by simp only [List.length_nil, List.length_cons]; omega), trivial⟩ trivial ⟨rfl, rfl⟩
theorem clone_ent : EntOk Try.prog 41 cloneE := by
  intro a o r o' c hg hc
  unfold cloneE at hg
  split at hg
  · rename_i els
    simp only [Option.some.injEq, Prod.mk.injEq] at hg
    obtain ⟨rfl, rfl, rfl⟩ := hg
    obtain ⟨L, hL, hok⟩ := isL_spec (hc (isL (.lst 4 els false)) (by simp))
    have : els = L.map chD := by simpa [chL] using hL
    subst this
    exact clone_c L hok
  · cases hg
/-! ### Merge -/
theorem mFold_ok : ∀ {l A B : List Chg}, (∀ c ∈ A, Chg.ok c) → (∀ c ∈ l, Chg.ok c) → mFold A l = some B → (∀ c ∈ B, Chg.ok c) ∧ B.length ≤ A.length + l.length
  | [], A, B, hA, _, h => by simp only [mFold, Option.some.injEq] at h; subst h; exact ⟨hA, by simp⟩
  | x :: r, A, B, hA, hl, h => by
    simp only [mFold] at h
    cases hs : mStep A x with
    | none => rw [hs] at h; cases h
    | some A' =>
      rw [hs] at h
      have key : (∀ c ∈ A', Chg.ok c) ∧ A'.length ≤ A.length + 1 := by
        unfold mStep at hs
        split at hs
        · injection hs with hs; subst hs
          refine ⟨fun c hc => ?_, by simp⟩
          rcases List.mem_append.1 hc with hc | hc
          · exact hA c hc
          · rw [List.mem_singleton.1 hc]; exact hl x (by simp)
        · split at hs
          · cases hs
          · rename_i y gy
            split at hs
            · injection hs with hs; subst hs
              refine ⟨fun c hc => ?_, by simp⟩
              rcases List.mem_or_eq_of_mem_set hc with hc | rfl
              · exact hA c hc
              · exact ok_set (hA y (List.mem_of_getElem? gy)) (hl x (by simp))
            · cases hs
      obtain ⟨i1, i2⟩ := mFold_ok key.1 (fun c hc => hl c (by simp [hc])) h
      refine ⟨i1, ?_⟩
      have := key.2
      simp only [List.length_cons]; omega
theorem mrgC_ok {L : List Chg} (h : okL L) : okL (mrgC L).1 := by
  unfold mrgC
  cases hf : mFold [] L with
  | none => exact ⟨by simp, by simp⟩
  | some A =>
    obtain ⟨h1, h2⟩ := mFold_ok (by simp) h.2 hf
    have hp := (Srt.isort_ok preC (live A)).2
    have h3 : (live A).length ≤ A.length := List.length_filter_le _ _
    refine ⟨?_, fun c hc => h1 c ((List.mem_filter.1 (hp.mem_iff.1 hc)).1)⟩
    show (Srt.isort cmpC (live A)).length ≤ 65536
    rw [hp.length_eq]
    have := h.1
    simp only [List.length_nil] at h2; omega
theorem mergeC_of (L : List Chg) : mergeC L = if (mrgC L).2 = 0 then (if mayL (mrgC L).1 then ((mrgC L).1, 0) else ([], 2)) else ([], (mrgC L).2) := by
  unfold mergeC mrgC
  cases mFold [] L with
  | none => rfl
  | some A => rfl
theorem mrg_ent : EntOk Try.prog 52 mrgE := by
  intro a o r o' c hg hc
  unfold mrgE at hg
  split at hg
  · rename_i x
    simp only [Option.some.injEq, Prod.mk.injEq] at hg
    obtain ⟨rfl, rfl, rfl⟩ := hg
    obtain ⟨L, rfl, hok⟩ := isL_spec (hc (isL x) (by simp))
    have h2 := hc ((unL (chL L)).all mayC) (by simp)
    have h3 := of_decide_eq_true (hc (decide ((unL (chL L)).length ≤ 10000)) (by simp))
    rw [unL_chL] at h2 h3 ⊢
    exact merge_c L hok (by simpa [List.all_eq_true] using h2) h3
  · cases hg
theorem ts8_ok : EntsOk Try.prog ts8 := .cons mrg_ent (.cons ck_ent .nil)
theorem Merge_c (L : List Chg) (hok : okL L) (hm : ∀ x ∈ L, mayC x = true) (hl6 : L.length ≤ 10000) : C Try.prog 26 [.d (chL L)] [] (fun r o => r = .tup [.d (chL (mergeC L).1), .d (.int .i64 (mergeC L).2)] ∧ o = []) := by
  have ok := cfT_ok ts8_ok
  refine C_of_run (fn := Try.f26) (body := mergC0) true (by kernel_rfl) (by kernel_rfl) (by kernel_rfl) ?_
  have k1 := isL_chL hok
  have k2 : (unL (chL L)).all mayC = true := by rw [unL_chL]; simpa [List.all_eq_true] using hm
  have k3 : decide ((unL (chL L)).length ≤ 10000) = true := decide_eq_true (by rw [unL_chL]; exact hl6)
  have k4 : isL (chL (mrgC (unL (chL L))).1) = true := by rw [unL_chL]; exact isL_chL (mrgC_ok hok)
  have hf := mergeC_of L
  have e1 : (mrgC (unL (chL L))).1 = (mrgC L).1 := by rw [unL_chL]
  have e2 : (mrgC (unL (chL L))).2 = (mrgC L).2 := by rw [unL_chL]
  by_cases h0 : (mrgC L).2 = 0
  · by_cases h1 : mayL (mrgC L).1 = true
    · rw [if_pos h0, if_pos h1] at hf
      have q1 : RVle (.d (.bool ((mrgC (unL (chL L))).2 == 0))) (.d (.bool true)) := le_bool (by rw [e2, h0]; rfl)
      have q2 : RVle (.d (.bool ((if mayL (unL (chL (mrgC (unL (chL L))).1)) = true then (0 : Int) else 2) != 0))) (.d (.bool false)) := le_bool (by rw [unL_chL, e1, h1]; rfl)
      exact WK.fin ok 1000 0 [(12, RV.d (DV.bool true)), (16, RV.d (DV.bool false))] [isL (DV.lst 4 (L.map chD) false), (unL (DV.lst (4) (L.map chD) false)).all Plain.mayC, decide ((unL (DV.lst (4) (L.map chD) false)).length ≤ 10000), isL (DV.lst 4 (List.map chD (Plain.mrgC (unL (DV.lst (4) (L.map chD) false))).1) false)] [(RV.d (DV.bool ((Plain.mrgC (unL (DV.lst (4) (L.map chD) false))).2 == 0)), RV.d (DV.bool true)), (RV.d (DV.bool ((if Plain.mayL (unL (chL (Plain.mrgC (unL (DV.lst (4) (L.map chD) false))).fst)) = true then (0 : Int) else 2) != 0)), RV.d (DV.bool false))] rfl (by kernel_rfl : runEnd (cfT ts8) true _ 1000 0 _ _ (ini 19 [.d (.lst 4 (L.map chD) false)] []) = some (RV.tup [RV.d (DV.lst 4 (List.map chD (Plain.mrgC (unL (DV.lst (4) (L.map chD) false))).1) false), RV.d (DV.int Go.IntKind.i64 (0))], [], _, _)) (by refine ⟨?_, ?_, ?_, ?_, trivial⟩ <;> (first | exact k1 | exact k2 | exact k3 | exact k4)) (by refine ⟨?_, ?_, trivial⟩ <;> (first | exact q1 | exact q2)) ⟨by rw [hf, ← e1]; rfl, rfl⟩
    · have h1' : mayL (mrgC L).1 = false := by simpa using h1
      rw [if_pos h0, if_neg h1] at hf
      have q1 : RVle (.d (.bool ((mrgC (unL (chL L))).2 == 0))) (.d (.bool true)) := le_bool (by rw [e2, h0]; rfl)
      have q2 : RVle (.d (.bool ((if mayL (unL (chL (mrgC (unL (chL L))).1)) = true then (0 : Int) else 2) != 0))) (.d (.bool true)) := le_bool (by rw [unL_chL, e1, h1']; rfl)
      have q3 : (if mayL (unL (chL (mrgC (unL (chL L))).1)) = true then (0 : Int) else 2) = 2 := by rw [unL_chL, e1, h1']; rfl
      exact WK.fin ok 1000 0 [(12, RV.d (DV.bool true)), (16, RV.d (DV.bool true)), (2, RV.d (DV.lst 4 [] false))] [isL (DV.lst 4 (L.map chD) false), (unL (DV.lst (4) (L.map chD) false)).all Plain.mayC, decide ((unL (DV.lst (4) (L.map chD) false)).length ≤ 10000), isL (DV.lst 4 (List.map chD (Plain.mrgC (unL (DV.lst (4) (L.map chD) false))).1) false)] [(RV.d (DV.lst 0 [] true), RV.d (DV.lst 4 [] false)), (RV.d (DV.bool ((Plain.mrgC (unL (DV.lst (4) (L.map chD) false))).2 == 0)), RV.d (DV.bool true)), (RV.d (DV.bool ((if Plain.mayL (unL (chL (Plain.mrgC (unL (DV.lst (4) (L.map chD) false))).fst)) = true then (0 : Int) else 2) != 0)), RV.d (DV.bool true)), (RV.d (DV.lst 0 [] true), RV.d (DV.lst 4 [] false))] rfl (by kernel_rfl : runEnd (cfT ts8) true _ 1000 0 _ _ (ini 19 [.d (.lst 4 (L.map chD) false)] []) = some (RV.tup [RV.d (DV.lst 4 [] false), RV.d (DV.int Go.IntKind.i64 (if Plain.mayL (unL (chL (Plain.mrgC (unL (DV.lst (4) (L.map chD) false))).fst)) = true then (0 : Int) else 2))], [], _, _)) (by refine ⟨?_, ?_, ?_, ?_, trivial⟩ <;> (first | exact k1 | exact k2 | exact k3 | exact k4)) (by refine ⟨?_, ?_, ?_, ?_, trivial⟩ <;> (first | exact q1 | exact q2 | exact nil_leM)) ⟨by rw [hf]; show RV.tup [_, .d (.int .i64 (if mayL (unL (chL (mrgC (unL (chL L))).1)) = true then (0 : Int) else 2))] = _; rw [q3]; rfl, rfl⟩
  · rw [if_neg h0] at hf
    have q1 : RVle (.d (.bool ((mrgC (unL (chL L))).2 == 0))) (.d (.bool false)) := le_bool (by rw [e2]; simpa using h0)
    have q2 : RVle (.d (.bool ((mrgC (unL (chL L))).2 != 0))) (.d (.bool true)) := le_bool (by rw [e2]; simpa using h0)
    exact WK.fin ok 1000 0 [(12, RV.d (DV.bool false)), (16, RV.d (DV.bool true)), (2, RV.d (DV.lst 4 [] false))] [isL (DV.lst 4 (L.map chD) false), (unL (DV.lst (4) (L.map chD) false)).all Plain.mayC, decide ((unL (DV.lst (4) (L.map chD) false)).length ≤ 10000)] [(RV.d (DV.lst 0 [] true), RV.d (DV.lst 4 [] false)), (RV.d (DV.bool ((Plain.mrgC (unL (DV.lst (4) (L.map chD) false))).2 == 0)), RV.d (DV.bool false)), (RV.d (DV.bool ((Plain.mrgC (unL (DV.lst (4) (L.map chD) false))).2 != 0)), RV.d (DV.bool true)), (RV.d (DV.lst 0 [] true), RV.d (DV.lst 4 [] false))] rfl (by kernel_rfl : runEnd (cfT ts8) true _ 1000 0 _ _ (ini 19 [.d (.lst 4 (L.map chD) false)] []) = some (RV.tup [RV.d (DV.lst 4 [] false), RV.d (DV.int Go.IntKind.i64 (Plain.mrgC (unL (DV.lst (4) (L.map chD) false))).2)], [], _, _)) (by refine ⟨?_, ?_, ?_, trivial⟩ <;> (first | exact k1 | exact k2 | exact k3 | exact k4)) (by refine ⟨?_, ?_, ?_, ?_, trivial⟩ <;> (first | exact q1 | exact q2 | exact nil_leM)) ⟨by rw [hf, ← e2]; rfl, rfl⟩
theorem merg_ent : EntOk Try.prog 26 mergE := by
  intro a o r o' c hg hc
  unfold mergE at hg
  split at hg
  · rename_i x
    simp only [Option.some.injEq, Prod.mk.injEq] at hg
    obtain ⟨rfl, rfl, rfl⟩ := hg
    obtain ⟨L, rfl, hok⟩ := isL_spec (hc (isL x) (by simp))
    have h2 := hc ((unL (chL L)).all mayC) (by simp)
    have h3 := of_decide_eq_true (hc (decide ((unL (chL L)).length ≤ 10000)) (by simp))
    rw [unL_chL] at h2 h3 ⊢
    exact Merge_c L hok (by simpa [List.all_eq_true] using h2) h3
  · cases hg
theorem ts9_ok : EntsOk Try.prog ts9 := .cons merg_ent (.cons ck_ent (.cons clone_ent .nil))
/-! ### Concat -/
theorem mayL_all {L : List Chg} (h : mayL L = true) : (∀ x ∈ L, mayC x = true) ∧ L.length ≤ 1000 := by
  simp only [mayL, Bool.and_eq_true, decide_eq_true_eq] at h
  refine ⟨?_, h.1⟩
  have key : ∀ (l : List Chg) (p : Option Chg), mayI p l = true → ∀ x ∈ l, mayC x = true := by
    intro l
    induction l with
    | nil => intro p _ x hx; simp at hx
    | cons y r ih =>
      intro p hp x hx
      simp only [mayI, Bool.and_eq_true] at hp
      rcases List.mem_cons.1 hx with rfl | hx
      · exact hp.1.1
      · exact ih _ hp.2 x hx
  exact key L none h.2
theorem Concat_c (a b : List Chg) (ha : okL a) (hb : okL b) : C Try.prog 19 [.d (chL a), .d (chL b)] [] (fun r o => r = .tup [.d (chL (concatC a b).1), .d (.int .i64 (concatC a b).2)] ∧ o = []) := by
  have ok := cfT_ok ts9_ok
  refine C_of_run (fn := Try.f19) (body := coC) true (by kernel_rfl) (by kernel_rfl) (by kernel_rfl) ?_
  have ka := isL_chL ha
  have kb := isL_chL hb
  obtain ⟨l, hl⟩ : ∃ l, a.map chD = l := ⟨_, rfl⟩
  obtain ⟨l2, hl2⟩ : ∃ l2, b.map chD = l2 := ⟨_, rfl⟩
  have ka' : isL (.lst 4 l false) = true := by rw [← hl]; exact ka
  have kb' : isL (.lst 4 l2 false) = true := by rw [← hl2]; exact kb
  have ea : unL (.lst 4 l false) = a := by rw [← hl]; exact unL_chL a
  have eb : unL (.lst 4 l2 false) = b := by rw [← hl2]; exact unL_chL b
  have fin : ∀ {i : Int} {ma mb : Bool}, True := fun {_ _ _} => trivial
  show WK Try.prog 0 _ (ini 28 [.d (.lst 4 (a.map chD) false), .d (.lst 4 (b.map chD) false)] []).den _
  rw [hl, hl2]
  refine WK.segA ok 1000 0 [] [] [0, 1, 11, 12] [] [] rfl (by kernel_rfl : runSegA (cfT ts9) 1000 0 _ _ _ _ (ini 28 [.d (.lst 4 l false), .d (.lst 4 l2 false)] []) = some (stackAt coC 0, cc1 l l2 0, _, _)) trivial trivial ?_
  skip
  by_cases h1 : mayL a = true
  · have q1 : RVle (.d (.bool ((if mayL (unL (.lst 4 l false)) = true then (0 : Int) else 2) != 0))) (.d (.bool false)) := le_bool (by rw [ea, h1]; rfl)
    have hrun : runSegA (cfT ts9) 1000 0 [(14, RV.d (DV.lst 4 l false)), (18, RV.d (DV.bool false))] [] [0, 1, 11, 12] (stackAt coC 0) (cc1 l l2 0) = some (stackAt coC 0, cc1 l l2 1, [true, isL (DV.lst 4 l false)], [(RV.d (DV.lst 4 l false), RV.d (DV.lst 4 l false)), (RV.d (DV.bool ((if Plain.mayL (unL (DV.lst (4) l false)) = true then (0 : Int) else 2) != 0)), RV.d (DV.bool false))]) := by kernel_rfl
    refine WK.segA (st := (cc1 l l2 0)) (st' := cc1 l l2 1) (k := (stackAt coC 0)) (k' := stackAt coC 0) ok 1000 0 _ _ _ _ _ rfl hrun (by refine ⟨?_, ?_, trivial⟩ <;> (first | rfl | exact ka' | exact kb')) (by refine ⟨?_, ?_, trivial⟩ <;> (first | exact .of_eq rfl | exact q1)) ?_
    skip
    by_cases h2 : mayL b = true
    · have q2 : RVle (.d (.bool ((if mayL (unL (.lst 4 l2 false)) = true then (0 : Int) else 2) != 0))) (.d (.bool false)) := le_bool (by rw [eb, h2]; rfl)
      have hrun : runSegA (cfT ts9) 1000 0 [(14, RV.d (DV.lst 4 l2 false)), (18, RV.d (DV.bool false))] [] [0, 1, 11, 12] (stackAt coC 0) (cc1 l l2 1) = some (stackAt coC 0, cc1 l l2 2, [true, isL (DV.lst 4 l2 false)], [(RV.d (DV.lst 4 l2 false), RV.d (DV.lst 4 l2 false)), (RV.d (DV.bool ((if Plain.mayL (unL (DV.lst (4) l2 false)) = true then (0 : Int) else 2) != 0)), RV.d (DV.bool false))]) := by kernel_rfl
      refine WK.segA (st := (cc1 l l2 1)) (st' := cc1 l l2 2) (k := (stackAt coC 0)) (k' := stackAt coC 0) ok 1000 0 _ _ _ _ _ rfl hrun (by refine ⟨?_, ?_, trivial⟩ <;> (first | rfl | exact ka' | exact kb')) (by refine ⟨?_, ?_, trivial⟩ <;> (first | exact .of_eq rfl | exact q2)) ?_
      skip
      have hc : concatC a b = mergeC (a ++ b) := by unfold concatC; rw [h1, h2]; rfl
      rw [hc]
      obtain ⟨ma, la⟩ := mayL_all h1
      obtain ⟨mb, lb⟩ := mayL_all h2
      have eab : unL (.lst 4 (l ++ l2) false) = a ++ b := by rw [← hl, ← hl2, ← List.map_append]; exact unL_chL _
      have kab : isL (.lst 4 (l ++ l2) false) = true := by
        rw [← hl, ← hl2, ← List.map_append]
        exact isL_chL ⟨by simp only [List.length_append]; omega, fun c hc => by
          rcases List.mem_append.1 hc with hc | hc
          · exact ha.2 c hc
          · exact hb.2 c hc⟩
      have kma : (unL (.lst 4 (l ++ l2) false)).all mayC = true := by
        rw [eab, List.all_eq_true]
        intro c hc
        rcases List.mem_append.1 hc with hc | hc
        · exact ma c hc
        · exact mb c hc
      have kle : decide ((unL (.lst 4 (l ++ l2) false)).length ≤ 10000) = true := decide_eq_true (by rw [eab, List.length_append]; omega)
      have klen : decide ((l.length + l2.length) * 88 ≤ 2 ^ 38) = true := decide_eq_true (by rw [← hl, ← hl2, List.length_map, List.length_map]; omega)
      have hrun : runEnd (cfT ts9) true (Try.f19.results.toList) 1000 0 [] (stackAt coC 0) (cc1 l l2 2) = some (.tup [.d (chL (mergeC (unL (.lst 4 (l ++ l2) false))).1), .d (.int .i64 (mergeC (unL (.lst 4 (l ++ l2) false))).2)], [], [isL (.lst 4 l false), decide ((l.length + l2.length) * 88 ≤ 2 ^ 38), isL (.lst 4 (l ++ l2) false), (unL (.lst 4 (l ++ l2) false)).all mayC, decide ((unL (.lst 4 (l ++ l2) false)).length ≤ 10000)], []) := by kernel_rfl
      exact WK.fin ok 1000 0 _ _ _ rfl hrun ⟨ka', klen, kab, kma, kle, trivial⟩ trivial ⟨by rw [eab], rfl⟩
    · have h2' : mayL b = false := by simpa using h2
      have q2 : RVle (.d (.bool ((if mayL (unL (.lst 4 l2 false)) = true then (0 : Int) else 2) != 0))) (.d (.bool true)) := le_bool (by rw [eb, h2']; rfl)
      have q3 : (if mayL (unL (.lst 4 l2 false)) = true then (0 : Int) else 2) = 2 := by rw [eb, h2']; rfl
      have hc : concatC a b = ([], 2) := by unfold concatC; rw [h2', Bool.and_false]; rfl
      rw [hc]
      exact WK.fin ok 1000 0 [(14, RV.d (DV.lst 4 l2 false)), (18, RV.d (DV.bool true)), (4, RV.d (DV.lst 4 [] false))] [true, isL (DV.lst 4 l2 false)] [(RV.d (DV.lst 4 l2 false), RV.d (DV.lst 4 l2 false)), (RV.d (DV.bool ((if Plain.mayL (unL (DV.lst (4) l2 false)) = true then (0 : Int) else 2) != 0)), RV.d (DV.bool true)), (RV.d (DV.lst 0 [] true), RV.d (DV.lst 4 [] false))] rfl (by kernel_rfl : runEnd (cfT ts9) true _ 1000 0 _ _ (cc1 l l2 1) = some (RV.tup [RV.d (DV.lst 4 [] false), RV.d (DV.int Go.IntKind.i64 (if Plain.mayL (unL (DV.lst (4) l2 false)) = true then (0 : Int) else 2))], [], _, _)) (by refine ⟨?_, ?_, trivial⟩ <;> (first | rfl | exact ka' | exact kb')) (by refine ⟨?_, ?_, ?_, trivial⟩ <;> (first | exact q2 | exact nil_leM | exact .of_eq rfl)) ⟨by show RV.tup [_, .d (.int .i64 (if mayL (unL (.lst 4 l2 false)) = true then (0 : Int) else 2))] = _; rw [q3]; rfl, rfl⟩
  · have h1' : mayL a = false := by simpa using h1
    have q2 : RVle (.d (.bool ((if mayL (unL (.lst 4 l false)) = true then (0 : Int) else 2) != 0))) (.d (.bool true)) := le_bool (by rw [ea, h1']; rfl)
    have q3 : (if mayL (unL (.lst 4 l false)) = true then (0 : Int) else 2) = 2 := by rw [ea, h1']; rfl
    have hc : concatC a b = ([], 2) := by unfold concatC; rw [h1', Bool.false_and]; rfl
    rw [hc]
    exact WK.fin ok 1000 0 [(14, RV.d (DV.lst 4 l false)), (18, RV.d (DV.bool true)), (4, RV.d (DV.lst 4 [] false))] [true, isL (DV.lst 4 l false)] [(RV.d (DV.lst 4 l false), RV.d (DV.lst 4 l false)), (RV.d (DV.bool ((if Plain.mayL (unL (DV.lst (4) l false)) = true then (0 : Int) else 2) != 0)), RV.d (DV.bool true)), (RV.d (DV.lst 0 [] true), RV.d (DV.lst 4 [] false))] rfl (by kernel_rfl : runEnd (cfT ts9) true _ 1000 0 _ _ (cc1 l l2 0) = some (RV.tup [RV.d (DV.lst 4 [] false), RV.d (DV.int Go.IntKind.i64 (if Plain.mayL (unL (DV.lst (4) l false)) = true then (0 : Int) else 2))], [], _, _)) (by refine ⟨?_, ?_, trivial⟩ <;> (first | rfl | exact ka' | exact kb')) (by refine ⟨?_, ?_, ?_, trivial⟩ <;> (first | exact q2 | exact nil_leM | exact .of_eq rfl)) ⟨by show RV.tup [_, .d (.int .i64 (if mayL (unL (.lst 4 l false)) = true then (0 : Int) else 2))] = _; rw [q3]; rfl, rfl⟩
/-! ### Invert -/
theorem set_inv {l : List Chg} {i : Nat} {x y : Chg} (h : l[i]? = some y) :
    ((l.map chD).set i (.agg (splice (((l.map chD).getD i .nilp).cells) 2 [rD x.n]))).set i (.agg (splice ((((l.map chD).set i (.agg (splice (((l.map chD).getD i .nilp).cells) 2 [rD x.n]))).getD i .nilp).cells) 3 [rD x.o])) = (l.set i ⟨y.t, y.k, x.n, x.o⟩).map chD := by
  have e1 : (l.map chD).set i (.agg (splice (((l.map chD).getD i .nilp).cells) 2 [rD x.n])) = (l.set i ⟨y.t, y.k, x.n, y.n⟩).map chD := by
    rw [getD_of h, ← map_set']; rfl
  rw [e1]
  have g2 : (l.set i ⟨y.t, y.k, x.n, y.n⟩)[i]? = some ⟨y.t, y.k, x.n, y.n⟩ := by
    rw [List.getElem?_set_self (lt_of_some h)]
  rw [getD_of g2]
  have : (DV.agg (splice (chD ⟨y.t, y.k, x.n, y.n⟩).cells 3 [rD x.o])) = chD ⟨y.t, y.k, x.n, x.o⟩ := rfl
  rw [this, map_set', List.set_set]
theorem Invert_c (L : List Chg) (hok : okL L) : C Try.prog 28 [.d (chL L)] [] (fun r o => r = .tup [.d (chL (invertC L).1), .d (.int .i64 (invertC L).2)] ∧ o = []) := by
  have ok := cfT_ok ts9_ok
  refine C_of_run (fn := Try.f28) (body := inC2) true (by kernel_rfl) (by kernel_rfl) (by kernel_rfl) ?_
  have ka := isL_chL hok
  have hl6 := hok.1
  by_cases h1 : mayL L = true
  · have hI : invertC L = (L.map invC, 0) := by unfold invertC; rw [h1]; rfl
    rw [hI]
    have hloop : WK Try.prog 0 (stackAt inC2 0) (iv1 (L.map chD) (L.map chD) 0).den (Ends (Try.f28.results.toList) (.tup [.d (chL (L.map invC)), .d (.int .i64 0)])) := by
      have key := WK.rec' (P := Try.prog) (m := 0) (k := stackAt inC2 0) (Q := Ends (Try.f28.results.toList) (.tup [.d (chL (L.map invC)), .d (.int .i64 0)])) (fun (i : Nat) => iv1 (((L.map invC).take i ++ L.drop i).map chD) (L.map chD) (i : Int)) (fun i => i ≤ L.length) (fun i => L.length - i) ?_ 0 (Nat.zero_le _)
      · exact key
      intro i hi ih
      have lt : ((L.map invC).take i).length = i := by rw [List.length_take, List.length_map]; omega
      by_cases hlt : i < L.length
      · obtain ⟨x, hx⟩ : ∃ x, L[i] = x := ⟨_, rfl⟩
        have ex : L.drop i = x :: L.drop (i + 1) := by rw [List.drop_eq_getElem_cons hlt, hx]
        have tx : (L.map invC).take (i + 1) = (L.map invC).take i ++ [invC x] := by rw [List.take_add_one, List.getElem?_map, List.getElem?_eq_getElem hlt, hx]; rfl
        have gx : ((L.map invC).take i ++ L.drop i)[i]? = some x := by rw [ex]; exact get_mid _ _ _ _ lt.symm
        have hw := ih (i + 1) hlt (by omega)
        have es : ((L.map invC).take i ++ L.drop i).set i ⟨x.t, x.k, x.n, x.o⟩ = (L.map invC).take (i + 1) ++ L.drop (i + 1) := by
          rw [ex, set_mid _ _ _ _ _ lt.symm, tx]; simp [invC]
        rw [← es, ← set_inv (x := x) gx] at hw
        have b1 := bd_in gx
        have b2 := bd_in2 gx
        have b3 := bd_ble gx
        have hb1 := bd_map (f := chD) hlt
        have hb2 := ov_chg hlt hx
        have hb3 : decide ((Nat.cast (R := Int) i) < (Nat.cast (R := Int) (L.map chD).length)) = true := decide_eq_true (by rw [List.length_map]; omega)
        have b4 : Nat.ble 3 ((((L.map invC).take i ++ L.drop i).map chD).getD (Nat.cast (R := Int) i).toNat .nilp).cells.length = true := by rw [Int.toNat_natCast, getD_of gx]; rfl
        obtain ⟨O, hO⟩ : ∃ O, (L.map invC).take i ++ L.drop i = O := ⟨_, rfl⟩
        rw [hO] at hw gx b1 b2 b3 b4 ⊢
        obtain ⟨z, hz⟩ : ∃ z, (DV.agg (splice ((((O.map chD).getD i .nilp).cells)) 2 [rD x.n])) = z := ⟨_, rfl⟩
        have c1 : decide ((0 : Int) ≤ (Nat.cast (R := Int) i) ∧ (Nat.cast (R := Int) i) < (Nat.cast (R := Int) ((O.map chD).set i z).length)) = true := by rw [List.length_set]; exact b1
        have c2 : decide ((Nat.cast (R := Int) i).toNat < ((O.map chD).set i z).length) = true := by rw [List.length_set]; exact b2
        have c3 : Nat.ble 4 (((O.map chD).set i z).getD (Nat.cast (R := Int) i).toNat .nilp).cells.length = true := by
          rw [Int.toNat_natCast, List.getD_eq_getElem?_getD, List.getElem?_set_self (by rw [List.length_map]; exact lt_of_some gx), ← hz, getD_of gx]; rfl
        rw [← hz] at c1 c2 c3
        clear hz hO es tx ex lt ih
        obtain ⟨out, hout⟩ : ∃ out, O.map chD = out := ⟨_, rfl⟩
        obtain ⟨l, hl⟩ : ∃ l, L.map chD = l := ⟨_, rfl⟩
        rw [hout] at hw b1 b2 b3 b4 c1 c2 c3 ⊢
        rw [hl] at hw hb1 hb2 hb3 ⊢
        refine WK.segA ok 1000 0 [(18, RV.d (DV.bool true)), (20, RV.iptr (DV.agg [DV.str x.1, DV.lst 3 (List.map vD x.2) false, DV.lst 3 (List.map vD x.3) false, DV.lst 3 (List.map vD x.4) false]) 0), (34, RV.d (DV.int Go.IntKind.i64 (Nat.cast (R := Int) (i + 1))))] [] [5, 15, 16, 17] [decide (0 ≤ (Nat.cast (R := Int) i) ∧ (Nat.cast (R := Int) i) < (Nat.cast (R := Int) l.length)), decide (0 ≤ (Nat.cast (R := Int) i) ∧ (Nat.cast (R := Int) i) < (Nat.cast (R := Int) out.length)), decide ((Nat.cast (R := Int) i).toNat < out.length), Nat.ble 3 (out.getD (Nat.cast (R := Int) i).toNat DV.nilp).cells.length, decide (0 ≤ (Nat.cast (R := Int) i) ∧ (Nat.cast (R := Int) i) < (Nat.cast (R := Int) (out.set (Nat.cast (R := Int) i).toNat (DV.agg (splice (out.getD (Nat.cast (R := Int) i).toNat DV.nilp).cells 2 (rD x.n).cells))).length)), decide ((Nat.cast (R := Int) i).toNat < (out.set (Nat.cast (R := Int) i).toNat (DV.agg (splice (out.getD (Nat.cast (R := Int) i).toNat DV.nilp).cells 2 (rD x.n).cells))).length), Nat.ble 4 ((out.set (Nat.cast (R := Int) i).toNat (DV.agg (splice (out.getD (Nat.cast (R := Int) i).toNat DV.nilp).cells 2 (rD x.n).cells))).getD (Nat.cast (R := Int) i).toNat DV.nilp).cells.length] [(RV.d (DV.bool (decide ((Nat.cast (R := Int) i) < (Nat.cast (R := Int) l.length)))), RV.d (DV.bool true)), (RV.iptr (l.getD (Nat.cast (R := Int) i).toNat DV.nilp) 0, RV.iptr (DV.agg [DV.str x.1, DV.lst 3 (List.map vD x.2) false, DV.lst 3 (List.map vD x.3) false, DV.lst 3 (List.map vD x.4) false]) 0), (RV.d (DV.int Go.IntKind.i64 (Go.IntKind.i64.wrap ((Nat.cast (R := Int) i) + 1))), RV.d (DV.int Go.IntKind.i64 (Nat.cast (R := Int) (i + 1))))] rfl (by kernel_rfl : runSegA (cfT ts9) 1000 0 _ _ _ _ (iv1 out l (i : Int)) = some (stackAt inC2 0, iv1 ((out.set i (.agg (splice ((out.getD i .nilp).cells) 2 [rD x.n]))).set i (.agg (splice (((out.set i (.agg (splice ((out.getD i .nilp).cells) 2 [rD x.n]))).getD i .nilp).cells) 3 [rD x.o]))) l ((i + 1 : Nat) : Int), _, _)) (by refine ⟨?_, ?_, ?_, ?_, ?_, ?_, ?_, trivial⟩ <;> (first | exact hb1 | exact b1 | exact b2 | exact b4 | exact b3 | exact c1 | exact c2 | exact c3)) (by refine ⟨?_, ?_, ?_, trivial⟩ <;> (first | exact le_bool hb3 | exact hb2 | exact ov_succ (by omega))) ?_
        exact hw
      · have e : i = L.length := by omega
        have eL : (L.map invC).take i ++ L.drop i = L.map invC := by rw [e, List.drop_eq_nil_of_le (Nat.le_refl _), List.take_of_length_le (by rw [List.length_map]; exact Nat.le_refl _), List.append_nil]
        rw [eL]
        have hf : decide ((Nat.cast (R := Int) i) < (Nat.cast (R := Int) (L.map chD).length)) = false := decide_eq_false (by rw [List.length_map]; omega)
        show WK Try.prog 0 _ _ (Ends (Try.f28.results.toList) (.tup [.d (.lst 4 ((L.map invC).map chD) false), .d (.int .i64 0)]))
        obtain ⟨out, hout⟩ : ∃ out, (L.map invC).map chD = out := ⟨_, rfl⟩
        obtain ⟨l, hl⟩ : ∃ l, L.map chD = l := ⟨_, rfl⟩
        rw [hout]
        rw [hl] at hf ⊢
        exact WK.fin ok 1000 0 [(18, RV.d (DV.bool false))] [] [(RV.d (DV.bool (decide ((Nat.cast (R := Int) i) < (Nat.cast (R := Int) l.length)))), RV.d (DV.bool false))] rfl (by kernel_rfl : runEnd (cfT ts9) true _ 1000 0 _ _ (iv1 out l (i : Int)) = some (RV.tup [RV.d (DV.lst 4 out false), RV.d (DV.int Go.IntKind.i64 (0))], [], _, _)) trivial ⟨(by exact le_bool hf), trivial⟩ ⟨rfl, rfl⟩
    have q1 : RVle (.d (.bool ((if mayL (unL (chL L)) = true then (0 : Int) else 2) != 0))) (.d (.bool false)) := le_bool (by rw [unL_chL, h1]; rfl)
    refine WK.segA ok 1000 0 [(11, RV.d (DV.bool false))] [] [5, 15, 16, 17] [isL (DV.lst 4 (L.map chD) false), isL (DV.lst 4 (L.map chD) false)] [(RV.d (DV.bool ((if Plain.mayL (unL (DV.lst (4) (L.map chD) false)) = true then (0 : Int) else 2) != 0)), RV.d (DV.bool false))] rfl (by kernel_rfl : runSegA (cfT ts9) 1000 0 _ _ _ _ (ini 36 [.d (.lst 4 (L.map chD) false)] []) = some (stackAt inC2 0, iv1 (L.map chD) (L.map chD) 0, _, _)) (by refine ⟨?_, ?_, trivial⟩ <;> (first | exact ka)) ⟨(by exact q1), trivial⟩ ?_
    exact hloop
  · have h1' : mayL L = false := by simpa using h1
    have hI : invertC L = ([], 2) := by unfold invertC; rw [h1']; rfl
    rw [hI]
    have q1 : RVle (.d (.bool ((if mayL (unL (chL L)) = true then (0 : Int) else 2) != 0))) (.d (.bool true)) := le_bool (by rw [unL_chL, h1']; rfl)
    have q3 : (if mayL (unL (chL L)) = true then (0 : Int) else 2) = 2 := by rw [unL_chL, h1']; rfl
    exact WK.fin ok 1000 0 [(11, RV.d (DV.bool true)), (2, RV.d (DV.lst 4 [] false))] [isL (DV.lst 4 (L.map chD) false)] [(RV.d (DV.lst 0 [] true), RV.d (DV.lst 4 [] false)), (RV.d (DV.bool ((if Plain.mayL (unL (DV.lst (4) (L.map chD) false)) = true then (0 : Int) else 2) != 0)), RV.d (DV.bool true)), (RV.d (DV.lst 0 [] true), RV.d (DV.lst 4 [] false))] rfl (by kernel_rfl : runEnd (cfT ts9) true _ 1000 0 _ _ (ini 36 [.d (.lst 4 (L.map chD) false)] []) = some (RV.tup [RV.d (DV.lst 4 [] false), RV.d (DV.int Go.IntKind.i64 (if Plain.mayL (unL (DV.lst (4) (L.map chD) false)) = true then (0 : Int) else 2))], [], _, _)) ⟨(by first | exact ka), trivial⟩ (by refine ⟨?_, ?_, ?_, trivial⟩ <;> (first | exact q1 | exact nil_leM)) ⟨by show RV.tup [_, .d (.int .i64 (if mayL (unL (chL L)) = true then (0 : Int) else 2))] = _; rw [q3]; rfl, rfl⟩
end Go.Proofs.Ytljfolepmkcjlaa

/-
  The law's bound on sizes (great, of the laws on changes); the reference's Concat.
-/
namespace Go.Proofs.Ytljfolepmkcjlaa
open Go.RowKit Plain Am IntWalk
set_option maxRecDepth 100000
set_option linter.unusedVariables false
set_option linter.unusedSimpArgs false

noncomputable abbrev g2C : Code := bodyOf Try.f23
def g2S (l : List DV) (n i : Int) : ESt := { n := 57, m := 0, regs := T.mk [(0, .d (.lst 4 l false)), (3, .d (.int .i64 n)), (10, .d (.lst 4 l false)), (11, .d (.int .i64 (l.length : Int))), (12, .d (.int .i64 i))], objs := T.nil }
def g2R (l : List DV) (n i : Int) (c : Chg) (j : Int) : ESt := { n := 57, m := 0, regs := T.mk [(0, .d (.lst 4 l false)), (3, .d (.int .i64 n)), (10, .d (.lst 4 l false)), (11, .d (.int .i64 (l.length : Int))), (12, .d (.int .i64 i)), (29, .d (.agg [rD c.k, rD c.o, rD c.n])), (30, .d (.int .i64 j))], objs := T.nil }
def g2V (l : List DV) (n i : Int) (c : Chg) (j : Int) (row : List DV) (q : Int) : ESt := { n := 57, m := 0, regs := T.mk [(0, .d (.lst 4 l false)), (3, .d (.int .i64 n)), (10, .d (.lst 4 l false)), (11, .d (.int .i64 (l.length : Int))), (12, .d (.int .i64 i)), (29, .d (.agg [rD c.k, rD c.o, rD c.n])), (30, .d (.int .i64 j)), (36, .d (.lst 3 row false)), (37, .d (.int .i64 (row.length : Int))), (38, .d (.int .i64 q))], objs := T.nil }
def m8 (s : Bs) : Int := if (8192 : Int) < (Nat.cast (R := Int) s.length) then 8192 else (Nat.cast (R := Int) s.length)
def m4 (s : Bs) : Int := if (4096 : Int) < (Nat.cast (R := Int) s.length) then 4096 else (Nat.cast (R := Int) s.length)
def sum8 (n : Int) (row : List Val) : Int := row.foldl (fun a v => a + (1 + m8 v.s)) n
def gr2Go : Int → List Chg → Bool
  | _, [] => false
  | n, x :: r => decide (40 < x.k.length) || decide (40 < x.o.length) || decide (40 < x.n.length) || decide (32768 < sum8 (sum8 (sum8 (n + (4 + m4 x.t)) x.k) x.o) x.n) || gr2Go (sum8 (sum8 (sum8 (n + (4 + m4 x.t)) x.k) x.o) x.n) r
def great2 (l : List Chg) : Bool := gr2Go 0 l || decide (1200 < l.length)
theorem m8_b (s : Bs) : 0 ≤ m8 s ∧ m8 s ≤ 8192 := by unfold m8; split <;> omega
theorem m4_b (s : Bs) : 0 ≤ m4 s ∧ m4 s ≤ 4096 := by unfold m4; split <;> omega
theorem sum8_app (n : Int) (a b : List Val) : sum8 n (a ++ b) = sum8 (sum8 n a) b := by unfold sum8; rw [List.foldl_append]
theorem sum8_b : ∀ (row : List Val) (n : Int), n ≤ sum8 n row ∧ sum8 n row ≤ n + 8193 * row.length
  | [], n => by simp [sum8]
  | v :: r, n => by
    have h := sum8_b r (n + (1 + m8 v.s))
    have hm := m8_b v.s
    have e : sum8 n (v :: r) = sum8 (n + (1 + m8 v.s)) r := rfl
    rw [e, List.length_cons]
    omega
theorem gr2Go_no : ∀ {l : List Chg} {n : Int}, gr2Go n l = false → ∀ c ∈ l, c.k.length ≤ 40 ∧ c.o.length ≤ 40 ∧ c.n.length ≤ 40
  | [], _, _, c, hc => by simp at hc
  | x :: r, n, h, c, hc => by
    simp only [gr2Go, Bool.or_eq_false_iff, decide_eq_false_iff_not] at h
    rcases List.mem_cons.1 hc with rfl | hc
    · omega
    · exact gr2Go_no h.2 c hc
theorem great2_no {l : List Chg} (h : great2 l = false) (hw : ∀ c ∈ l, c.wf) : okL l := by
  simp only [great2, Bool.or_eq_false_iff, decide_eq_false_iff_not] at h
  refine ⟨by omega, fun c hc => ?_⟩
  have := gr2Go_no h.1 c hc
  exact ⟨hw c hc, by omega, by omega, by omega⟩
abbrev EndsG2 (b : Bool) : SSt → Prop := Ends (Try.f23.results.toList) (.d (.bool b))
theorem ov_m4 {n n2 : Int} {t : Bs} (h : n + (4 + m4 t) = n2) (hn : 0 ≤ n ∧ n ≤ 1000000) : RVle (.d (.int .i64 (IntKind.i64.wrap (n + IntKind.i64.wrap (4 + if (4096 : Int) < (Nat.cast (R := Int) t.length) then 4096 else (Nat.cast (R := Int) t.length)))))) (.d (.int .i64 n2)) := .of_eq (by
  have hm := m4_b t
  show RV.d (.int .i64 (IntKind.i64.wrap (n + IntKind.i64.wrap (4 + m4 t)))) = _
  rw [i64_in (4 + m4 t) (by omega), i64_in _ (by omega), h])
theorem ov_m8 {n n2 : Int} {t : Bs} (h : n + (1 + m8 t) = n2) (hn : 0 ≤ n ∧ n ≤ 10000000) : RVle (.d (.int .i64 (IntKind.i64.wrap (n + IntKind.i64.wrap (1 + if (8192 : Int) < (Nat.cast (R := Int) t.length) then 8192 else (Nat.cast (R := Int) t.length)))))) (.d (.int .i64 n2)) := .of_eq (by
  have hm := m8_b t
  show RV.d (.int .i64 (IntKind.i64.wrap (n + IntKind.i64.wrap (1 + m8 t)))) = _
  rw [i64_in (1 + m8 t) (by omega), i64_in _ (by omega), h])
theorem g2_inner (l : List DV) (n : Int) (hn : 0 ≤ n ∧ n ≤ 2000000) (i : Nat) (x : Chg) (j : Nat) (hj : j ≤ 3) (row : List Val) (hr : row.length ≤ 40) (b : Bool)
    (hk : WK Try.prog 0 (stackAt g2C 1) (g2R l (sum8 n row) (i : Int) x ((j + 1 : Nat) : Int)).den (EndsG2 b)) : WK Try.prog 0 (stackAt g2C 2) (g2V l n (i : Int) x (j : Int) (row.map vD) 0).den (EndsG2 b) := by
  have ok := cfT_ok (l := []) .nil
  have hrl : (row.map vD).length = row.length := List.length_map ..
  have key := WK.rec' (P := Try.prog) (m := 0) (k := stackAt g2C 2) (Q := EndsG2 b) (fun (q : Nat) => g2V l (sum8 n (row.take q)) (i : Int) x (j : Int) (row.map vD) (q : Int)) (fun q => q ≤ row.length) (fun q => row.length - q) ?_ 0 (Nat.zero_le _)
  · exact key
  intro q hq ih
  have hb := sum8_b (row.take q) n
  have hbl : (row.take q).length ≤ 40 := by rw [List.length_take]; omega
  by_cases hlt : q < row.length
  · obtain ⟨v, hv⟩ : ∃ v, row[q] = v := ⟨_, rfl⟩
    have hw := ih (q + 1) hlt (by omega)
    have tx : row.take (q + 1) = row.take q ++ [v] := by rw [List.take_add_one, List.getElem?_eq_getElem hlt, hv]; rfl
    rw [tx, sum8_app] at hw
    obtain ⟨m, hm⟩ : ∃ m, sum8 n (row.take q) = m := ⟨_, rfl⟩
    rw [hm] at hb hw ⊢
    obtain ⟨n2, hn2⟩ : ∃ n2, m + (1 + m8 v.s) = n2 := ⟨_, rfl⟩
    have e2 : sum8 m [v] = n2 := hn2
    rw [e2] at hw
    have b1 := bd_map (f := vD) hlt
    have b2 := ov_val hlt hv
    have b3 : decide ((Nat.cast (R := Int) q) < (Nat.cast (R := Int) (row.map vD).length)) = true := decide_eq_true (by omega)
    have b4 := ov_m8 hn2 (by omega)
    obtain ⟨rwl, hrw⟩ : ∃ r, row.map vD = r := ⟨_, rfl⟩
    rw [hrw] at hw b1 b2 b3 ⊢
    clear ih hk
    refine WK.segA ok 1000 0 [(39, RV.d (DV.bool true)), (40, RV.iptr (DV.agg [DV.int Go.IntKind.u8 v.1, DV.int Go.IntKind.i64 v.2, DV.str v.3]) 0), (48, RV.d (DV.int Go.IntKind.i64 n2)), (49, RV.d (DV.int Go.IntKind.i64 (Nat.cast (R := Int) (q + 1))))] [] [0, 3, 10, 11, 12, 29, 30, 36, 37, 38] [decide (0 ≤ (Nat.cast (R := Int) q) ∧ (Nat.cast (R := Int) q) < (Nat.cast (R := Int) rwl.length))] [(RV.d (DV.bool (decide ((Nat.cast (R := Int) q) < (Nat.cast (R := Int) rwl.length)))), RV.d (DV.bool true)), (RV.iptr (rwl.getD (Nat.cast (R := Int) q).toNat DV.nilp) 0, RV.iptr (DV.agg [DV.int Go.IntKind.u8 v.1, DV.int Go.IntKind.i64 v.2, DV.str v.3]) 0), (RV.d (DV.int Go.IntKind.i64 (Go.IntKind.i64.wrap (m + Go.IntKind.i64.wrap (1 + if 8192 < (Nat.cast (R := Int) (List.length v.s)) then 8192 else (Nat.cast (R := Int) (List.length v.3)))))), RV.d (DV.int Go.IntKind.i64 n2)), (RV.d (DV.int Go.IntKind.i64 (Go.IntKind.i64.wrap ((Nat.cast (R := Int) q) + 1))), RV.d (DV.int Go.IntKind.i64 (Nat.cast (R := Int) (q + 1))))] rfl (by kernel_rfl : runSegA (cfT []) 1000 0 _ _ _ _ (g2V l m (i : Int) x (j : Int) rwl (q : Int)) = some (stackAt g2C 2, g2V l n2 (i : Int) x (j : Int) rwl ((q + 1 : Nat) : Int), _, _)) ⟨(by exact b1), trivial⟩ (by refine ⟨?_, ?_, ?_, ?_, trivial⟩ <;> (first | exact le_bool b3 | exact b2 | exact b4 | exact ov_succ (by omega))) ?_
    exact hw
  · have e : row.take q = row := List.take_of_length_le (by omega)
    rw [e]
    obtain ⟨m, hm⟩ : ∃ m, sum8 n row = m := ⟨_, rfl⟩
    rw [hm] at hk ⊢
    have hf : decide ((Nat.cast (R := Int) q) < (Nat.cast (R := Int) (row.map vD).length)) = false := decide_eq_false (by omega)
    obtain ⟨rwl, hrw⟩ : ∃ r, row.map vD = r := ⟨_, rfl⟩
    rw [hrw] at hf ⊢
    clear ih
    refine WK.segA ok 1000 0 [(39, RV.d (DV.bool false)), (50, RV.d (DV.int Go.IntKind.i64 (Nat.cast (R := Int) (j + 1))))] [] [0, 3, 10, 11, 12, 29, 30] [] [(RV.d (DV.bool (decide ((Nat.cast (R := Int) q) < (Nat.cast (R := Int) rwl.length)))), RV.d (DV.bool false)), (RV.d (DV.int Go.IntKind.i64 (Go.IntKind.i64.wrap ((Nat.cast (R := Int) j) + 1))), RV.d (DV.int Go.IntKind.i64 (Nat.cast (R := Int) (j + 1))))] rfl (by kernel_rfl : runSegA (cfT []) 1000 0 _ _ _ _ (g2V l m (i : Int) x (j : Int) rwl (q : Int)) = some (stackAt g2C 1, g2R l m (i : Int) x ((j + 1 : Nat) : Int), _, _)) trivial (by refine ⟨?_, ?_, trivial⟩ <;> (first | exact le_bool hf | exact ov_succ (by omega))) ?_
    exact hk
theorem gt40 (r : List Val) (b : Bool) (h : decide (40 < r.length) = b) : decide ((40 : Int) < (Nat.cast (R := Int) (r.map vD).length)) = b := by
  rw [← h, List.length_map]
  apply Bool.eq_iff_iff.2; simp only [decide_eq_true_eq]; omega
theorem g2_c (L : List Chg) (hl : L.length ≤ 9223372036854775807) : C Try.prog 23 [.d (chL L)] [] (fun r o => r = .d (.bool (great2 L)) ∧ o = []) := by
  have ok := cfT_ok (l := []) .nil
  refine C_of_run (fn := Try.f23) (body := g2C) true (by kernel_rfl) (by kernel_rfl) (by kernel_rfl) ?_
  have hloop : WK Try.prog 0 (stackAt g2C 0) (g2S (L.map chD) 0 0).den (EndsG2 (great2 L)) := by
    refine WK.rec' (fun (q : Int × Nat) => g2S (L.map chD) q.1 (q.2 : Int)) (fun q => q.2 ≤ L.length ∧ (4 * (q.2 : Int) ≤ q.1 ∧ q.1 ≤ 32768) ∧ (gr2Go q.1 (L.drop q.2) || decide (1200 < L.length)) = great2 L) (fun q => L.length - q.2) ?_ (0, 0) ⟨Nat.zero_le _, ⟨by decide, by decide⟩, rfl⟩
    rintro ⟨n, i⟩ ⟨hi, hn, hg⟩ ih
    simp only at hi hn hg ih ⊢
    by_cases hlt : i < L.length
    · obtain ⟨x, hx⟩ : ∃ x, L[i] = x := ⟨_, rfl⟩
      rw [List.drop_eq_getElem_cons hlt, hx] at hg
      simp only [gr2Go] at hg
      obtain ⟨n0, hn0⟩ : ∃ n0, n + (4 + m4 x.t) = n0 := ⟨_, rfl⟩
      rw [hn0] at hg
      have hm4 := m4_b x.t
      have b1 := bd_map (f := chD) hlt
      have b2 := ov_chg hlt hx
      have b3 : decide ((Nat.cast (R := Int) i) < (Nat.cast (R := Int) (L.map chD).length)) = true := decide_eq_true (by rw [List.length_map]; omega)
      have b4 := ov_m4 hn0 (by omega)
      have hbody : WK Try.prog 0 (stackAt g2C 1) (g2R (L.map chD) n0 (i : Int) x 0).den (EndsG2 (great2 L)) := by
        obtain ⟨l, hl'⟩ : ∃ l, L.map chD = l := ⟨_, rfl⟩
        rw [hl'] at ih ⊢
        cases c1 : decide (40 < x.k.length) with
        | true =>
          have hG : great2 L = true := by rw [← hg, c1]; rfl
          rw [hG]
          have d1 := gt40 _ _ c1
          clear ih
          exact WK.fin ok 1000 0 [(35, RV.d (DV.bool true))] [true] [(RV.d (DV.bool (decide (40 < (Nat.cast (R := Int) (List.map vD x.k).length)))), RV.d (DV.bool true))] rfl (by kernel_rfl : runEnd (cfT []) true _ 1000 0 _ _ (g2R l n0 (i : Int) x 0) = some (RV.d (DV.bool true), [], _, _)) ⟨(by rfl), trivial⟩ ⟨(by exact le_bool d1), trivial⟩ ⟨rfl, rfl⟩
        | false =>
        have k1 := of_decide_eq_false c1
        have s1 := sum8_b x.k n0
        obtain ⟨n1, hn1⟩ : ∃ n1, sum8 n0 x.k = n1 := ⟨_, rfl⟩
        rw [hn1] at hg s1
        have r1 : WK Try.prog 0 (stackAt g2C 1) (g2R l n1 (i : Int) x 1).den (EndsG2 (great2 L)) := by
          cases c2 : decide (40 < x.o.length) with
          | true =>
            have hG : great2 L = true := by rw [← hg, c2]; simp
            rw [hG]
            have d1 := gt40 _ _ c2
            clear ih
            exact WK.fin ok 1000 0 [(35, RV.d (DV.bool true))] [true] [(RV.d (DV.bool (decide (40 < (Nat.cast (R := Int) (List.map vD x.o).length)))), RV.d (DV.bool true))] rfl (by kernel_rfl : runEnd (cfT []) true _ 1000 0 _ _ (g2R l n1 (i : Int) x 1) = some (RV.d (DV.bool true), [], _, _)) ⟨(by rfl), trivial⟩ ⟨(by exact le_bool d1), trivial⟩ ⟨rfl, rfl⟩
          | false =>
          have k2 := of_decide_eq_false c2
          have s2 := sum8_b x.o n1
          obtain ⟨n2, hn2⟩ : ∃ n2, sum8 n1 x.o = n2 := ⟨_, rfl⟩
          rw [hn2] at hg s2
          have r2 : WK Try.prog 0 (stackAt g2C 1) (g2R l n2 (i : Int) x 2).den (EndsG2 (great2 L)) := by
            cases c3 : decide (40 < x.n.length) with
            | true =>
              have hG : great2 L = true := by rw [← hg, c3]; simp
              rw [hG]
              have d1 := gt40 _ _ c3
              clear ih
              exact WK.fin ok 1000 0 [(35, RV.d (DV.bool true))] [true] [(RV.d (DV.bool (decide (40 < (Nat.cast (R := Int) (List.map vD x.n).length)))), RV.d (DV.bool true))] rfl (by kernel_rfl : runEnd (cfT []) true _ 1000 0 _ _ (g2R l n2 (i : Int) x 2) = some (RV.d (DV.bool true), [], _, _)) ⟨(by rfl), trivial⟩ ⟨(by exact le_bool d1), trivial⟩ ⟨rfl, rfl⟩
            | false =>
            have k3 := of_decide_eq_false c3
            have s3 := sum8_b x.n n2
            obtain ⟨n3, hn3⟩ : ∃ n3, sum8 n2 x.n = n3 := ⟨_, rfl⟩
            rw [hn3] at hg s3
            have r3 : WK Try.prog 0 (stackAt g2C 1) (g2R l n3 (i : Int) x 3).den (EndsG2 (great2 L)) := by
              cases c4 : decide ((32768 : Int) < n3) with
              | true =>
                have hG : great2 L = true := by rw [← hg, c4]; simp
                rw [hG]
                clear ih
                exact WK.fin ok 1000 0 [(52, RV.d (DV.bool true))] [] [(RV.d (DV.bool (decide (32768 < n3))), RV.d (DV.bool true))] rfl (by kernel_rfl : runEnd (cfT []) true _ 1000 0 _ _ (g2R l n3 (i : Int) x 3) = some (RV.d (DV.bool true), [], _, _)) trivial ⟨(by exact le_bool c4), trivial⟩ ⟨rfl, rfl⟩
              | false =>
                have k4 := of_decide_eq_false c4
                rw [c1, c2, c3, c4] at hg
                have hw := ih (n3, i + 1) ⟨hlt, ⟨by simp only; omega, by simp only; omega⟩, by simpa using hg⟩ (by simp only; omega)
                simp only at hw
                clear ih
                refine WK.segA ok 1000 0 [(52, RV.d (DV.bool false)), (53, RV.d (DV.int Go.IntKind.i64 (Nat.cast (R := Int) (i + 1))))] [] [0, 3, 10, 11, 12] [] [(RV.d (DV.bool (decide (32768 < n3))), RV.d (DV.bool false)), (RV.d (DV.int Go.IntKind.i64 (Go.IntKind.i64.wrap ((Nat.cast (R := Int) i) + 1))), RV.d (DV.int Go.IntKind.i64 (Nat.cast (R := Int) (i + 1))))] rfl (by kernel_rfl : runSegA (cfT []) 1000 0 _ _ _ _ (g2R l n3 (i : Int) x 3) = some (stackAt g2C 0, g2S l n3 ((i + 1 : Nat) : Int), _, _)) trivial (by refine ⟨?_, ?_, trivial⟩ <;> (first | exact le_bool c4 | exact ov_succ (by omega))) ?_
                exact hw
            have hin := g2_inner l n2 (by omega) i x 2 (by omega) x.n (by omega) (great2 L) (by rw [hn3]; exact r3)
            have d1 := gt40 _ _ c3
            clear ih
            refine WK.segA ok 1000 0 [(35, RV.d (DV.bool false))] [] [0, 3, 10, 11, 12, 29, 30, 36, 37, 38] [true] [(RV.d (DV.bool (decide (40 < (Nat.cast (R := Int) (List.map vD x.n).length)))), RV.d (DV.bool false))] rfl (by kernel_rfl : runSegA (cfT []) 1000 0 _ _ _ _ (g2R l n2 (i : Int) x 2) = some (stackAt g2C 2, g2V l n2 (i : Int) x 2 (x.n.map vD) 0, _, _)) ⟨(by rfl), trivial⟩ ⟨(by exact le_bool d1), trivial⟩ ?_
            exact hin
          have hin := g2_inner l n1 (by omega) i x 1 (by omega) x.o (by omega) (great2 L) (by rw [hn2]; exact r2)
          have d1 := gt40 _ _ c2
          clear ih
          refine WK.segA ok 1000 0 [(35, RV.d (DV.bool false))] [] [0, 3, 10, 11, 12, 29, 30, 36, 37, 38] [true] [(RV.d (DV.bool (decide (40 < (Nat.cast (R := Int) (List.map vD x.o).length)))), RV.d (DV.bool false))] rfl (by kernel_rfl : runSegA (cfT []) 1000 0 _ _ _ _ (g2R l n1 (i : Int) x 1) = some (stackAt g2C 2, g2V l n1 (i : Int) x 1 (x.o.map vD) 0, _, _)) ⟨(by rfl), trivial⟩ ⟨(by exact le_bool d1), trivial⟩ ?_
          exact hin
        have hin := g2_inner l n0 (by omega) i x 0 (by omega) x.k (by omega) (great2 L) (by rw [hn1]; exact r1)
        have d1 := gt40 _ _ c1
        clear ih
        refine WK.segA ok 1000 0 [(35, RV.d (DV.bool false))] [] [0, 3, 10, 11, 12, 29, 30, 36, 37, 38] [true] [(RV.d (DV.bool (decide (40 < (Nat.cast (R := Int) (List.map vD x.k).length)))), RV.d (DV.bool false))] rfl (by kernel_rfl : runSegA (cfT []) 1000 0 _ _ _ _ (g2R l n0 (i : Int) x 0) = some (stackAt g2C 2, g2V l n0 (i : Int) x 0 (x.k.map vD) 0, _, _)) ⟨(by rfl), trivial⟩ ⟨(by exact le_bool d1), trivial⟩ ?_
        exact hin
      obtain ⟨l, hl'⟩ : ∃ l, L.map chD = l := ⟨_, rfl⟩
      rw [hl'] at hbody b1 b2 b3 ⊢
      clear ih
      refine WK.segA ok 1000 0 [(13, RV.d (DV.bool true)), (14, RV.iptr (DV.agg [DV.str x.1, DV.lst 3 (List.map vD x.2) false, DV.lst 3 (List.map vD x.3) false, DV.lst 3 (List.map vD x.4) false]) 0), (22, RV.d (DV.int Go.IntKind.i64 n0))] [] [0, 3, 10, 11, 12, 29, 30] [decide (0 ≤ (Nat.cast (R := Int) i) ∧ (Nat.cast (R := Int) i) < (Nat.cast (R := Int) l.length))] [(RV.d (DV.bool (decide ((Nat.cast (R := Int) i) < (Nat.cast (R := Int) l.length)))), RV.d (DV.bool true)), (RV.iptr (l.getD (Nat.cast (R := Int) i).toNat DV.nilp) 0, RV.iptr (DV.agg [DV.str x.1, DV.lst 3 (List.map vD x.2) false, DV.lst 3 (List.map vD x.3) false, DV.lst 3 (List.map vD x.4) false]) 0), (RV.d (DV.int Go.IntKind.i64 (Go.IntKind.i64.wrap (n + Go.IntKind.i64.wrap (4 + if 4096 < (Nat.cast (R := Int) (List.length x.t)) then 4096 else (Nat.cast (R := Int) (List.length x.1)))))), RV.d (DV.int Go.IntKind.i64 n0))] rfl (by kernel_rfl : runSegA (cfT []) 1000 0 _ _ _ _ (g2S l n (i : Int)) = some (stackAt g2C 1, g2R l n0 (i : Int) x 0, _, _)) ⟨(by exact b1), trivial⟩ (by refine ⟨?_, ?_, ?_, trivial⟩ <;> (first | exact le_bool b3 | exact b2 | exact b4)) ?_
      exact hbody
    · have hf : decide ((Nat.cast (R := Int) i) < (Nat.cast (R := Int) (L.map chD).length)) = false := decide_eq_false (by rw [List.length_map]; omega)
      have hG : decide ((1200 : Int) < (Nat.cast (R := Int) (L.map chD).length)) = great2 L := by
        rw [← hg, List.drop_eq_nil_of_le (by omega), List.length_map]
        simp only [gr2Go, Bool.false_or]
        apply Bool.eq_iff_iff.2; simp only [decide_eq_true_eq]; omega
      show WK Try.prog 0 _ _ (Ends _ (.d (.bool (great2 L))))
      rw [← hG]
      obtain ⟨l, hl'⟩ : ∃ l, L.map chD = l := ⟨_, rfl⟩
      rw [hl'] at hf ⊢
      clear ih
      exact WK.fin ok 1000 0 [(13, RV.d (DV.bool false))] [] [(RV.d (DV.bool (decide ((Nat.cast (R := Int) i) < (Nat.cast (R := Int) l.length)))), RV.d (DV.bool false))] rfl (by kernel_rfl : runEnd (cfT []) true _ 1000 0 _ _ (g2S l n (i : Int)) = some (RV.d (DV.bool (decide (1200 < (Nat.cast (R := Int) l.length)))), [], _, _)) trivial ⟨(by exact le_bool hf), trivial⟩ ⟨rfl, rfl⟩
  obtain ⟨l, hl'⟩ : ∃ l, L.map chD = l := ⟨_, rfl⟩
  show WK Try.prog 0 _ (ini 57 [.d (.lst 4 (L.map chD) false)] []).den _
  rw [hl'] at hloop ⊢
  refine WK.segA ok 1000 0 [] [] [0, 3, 10, 11, 12] [] [] rfl (by kernel_rfl : runSegA (cfT []) 1000 0 _ _ _ _ (ini 57 [.d (.lst 4 l false)] []) = some (stackAt g2C 0, g2S l 0 0, _, _)) trivial trivial ?_
  exact hloop
def grG2 (x : DV) : Option (DV × List Bool) := some (.bool (great2 (unL x)), [isLw x])
theorem g2_ent : EntOk Try.prog 23 (e1 grG2) := by
  refine e1_ok fun x y c hg hc => ?_
  simp only [grG2, Option.some.injEq, Prod.mk.injEq] at hg
  obtain ⟨rfl, rfl⟩ := hg
  obtain ⟨l, rfl, hl, hw⟩ := isLw_spec (hc (isLw x) (by simp))
  rw [unL_chL]
  exact g2_c l hl
end Go.Proofs.Ytljfolepmkcjlaa

/-
  Whether two changesets are the same.
-/
namespace Go.Proofs.Ytljfolepmkcjlaa
open Go.RowKit Plain Am IntWalk
set_option maxRecDepth 100000
set_option linter.unusedVariables false
set_option linter.unusedSimpArgs false

theorem chg_ext {x y : Chg} (h1 : x.t = y.t) (h2 : x.k = y.k) (h3 : x.o = y.o) (h4 : x.n = y.n) : x = y := by
  cases x; cases y; simp only at h1 h2 h3 h4; subst h1 h2 h3 h4; rfl
theorem sa_c (a b : List Chg) (ha : okL a) (hb : okL b) : C Try.prog 16 [.d (chL a), .d (chL b)] [] (fun r o => r = .d (.bool (decide (a = b))) ∧ o = []) := by
  have ok := cfT_ok t2_ok
  refine C_of_run (fn := Try.f16) (body := saC) true (by kernel_rfl) (by kernel_rfl) (by kernel_rfl) ?_
  have hal := ha.1
  have hloop : a.length = b.length → WK Try.prog 0 (stackAt saC 0) (saS (a.map chD) (b.map chD) 0).den (Ends (Try.f16.results.toList) (.d (.bool (decide (a = b))))) := by
    intro hlen
    refine WK.rec' (fun i => saS (a.map chD) (b.map chD) i) (fun i => i ≤ a.length ∧ a.take i = b.take i) (fun i => a.length - i) ?_ 0 ⟨Nat.zero_le _, rfl⟩
    rintro i ⟨hi, ht⟩ ih
    obtain ⟨x, hx⟩ := at_chg a i
    obtain ⟨y, hy⟩ := at_chg b i
    have hb2 : i < a.length → i < b.length := fun h => by omega
    have hxo : i < a.length → Chg.ok x := fun h => by rw [← hx h]; exact ha.2 _ (List.getElem_mem h)
    have hyo : i < a.length → Chg.ok y := fun h => by rw [← hy (hb2 h)]; exact hb.2 _ (List.getElem_mem (hb2 h))
    have hend : decide ((Nat.cast (R := Int) i) < (Nat.cast (R := Int) (a.map chD).length)) = false → decide (a = b) = true := fun h => by
      have e := ge_map h
      rw [List.take_of_length_le e, List.take_of_length_le (by omega)] at ht
      exact decide_eq_true ht
    have hno : i < a.length → x ≠ y → decide (a = b) = false := fun h hne => by
      refine decide_eq_false ?_
      rintro rfl
      exact hne ((hx h).symm.trans (hy h))
    by_cases c1 : x.t = y.t
    · by_cases c2 : x.k = y.k
      · by_cases c3 : x.o = y.o
        · skip
          rcases Bool.eq_false_or_eq_true (decide ((Nat.cast (R := Int) i) < (Nat.cast (R := Int) (a.map chD).length)) : Bool) with h14 | h14
          · skip
            rcases Bool.eq_false_or_eq_true (!decide (x.n = y.n) : Bool) with h69 | h69
            · skip
              exact WK.fin ok 1000 0 [(19, RV.iptr (DV.agg [DV.str x.1, DV.lst 3 (List.map vD x.2) false, DV.lst 3 (List.map vD x.3) false, DV.lst 3 (List.map vD x.4) false]) 0), (24, RV.iptr (DV.agg [DV.str y.1, DV.lst 3 (List.map vD y.2) false, DV.lst 3 (List.map vD y.3) false, DV.lst 3 (List.map vD y.4) false]) 0), (27, RV.d (DV.bool false)), (28, RV.d (DV.bool false)), (42, RV.d (DV.bool false)), (56, RV.d (DV.bool false)), (31, RV.iptr (DV.agg [DV.str x.1, DV.lst 3 (List.map vD x.2) false, DV.lst 3 (List.map vD x.3) false, DV.lst 3 (List.map vD x.4) false]) 0), (36, RV.iptr (DV.agg [DV.str y.1, DV.lst 3 (List.map vD y.2) false, DV.lst 3 (List.map vD y.3) false, DV.lst 3 (List.map vD y.4) false]) 0), (39, RV.d (DV.bool true)), (45, RV.iptr (DV.agg [DV.str x.1, DV.lst 3 (List.map vD x.2) false, DV.lst 3 (List.map vD x.3) false, DV.lst 3 (List.map vD x.4) false]) 0), (50, RV.iptr (DV.agg [DV.str y.1, DV.lst 3 (List.map vD y.2) false, DV.lst 3 (List.map vD y.3) false, DV.lst 3 (List.map vD y.4) false]) 0), (53, RV.d (DV.bool true)), (59, RV.iptr (DV.agg [DV.str x.1, DV.lst 3 (List.map vD x.2) false, DV.lst 3 (List.map vD x.3) false, DV.lst 3 (List.map vD x.4) false]) 0), (64, RV.iptr (DV.agg [DV.str y.1, DV.lst 3 (List.map vD y.2) false, DV.lst 3 (List.map vD y.3) false, DV.lst 3 (List.map vD y.4) false]) 0), (67, RV.d (DV.bool (decide (x.n = y.n)))), (16, RV.d (DV.int Go.IntKind.i64 (Nat.cast (R := Int) (i + 1)))), (14, RV.d (DV.bool true)), (69, RV.d (DV.bool true))] [decide (0 ≤ (Nat.cast (R := Int) i) ∧ (Nat.cast (R := Int) i) < (Nat.cast (R := Int) (a.map chD).length)), decide (0 ≤ (Nat.cast (R := Int) i) ∧ (Nat.cast (R := Int) i) < (Nat.cast (R := Int) (b.map chD).length)), decide (0 ≤ (Nat.cast (R := Int) i) ∧ (Nat.cast (R := Int) i) < (Nat.cast (R := Int) (a.map chD).length)), decide (0 ≤ (Nat.cast (R := Int) i) ∧ (Nat.cast (R := Int) i) < (Nat.cast (R := Int) (b.map chD).length)), isR (DV.lst 3 (List.map vD x.2) false), isR (DV.lst 3 (List.map vD y.2) false), decide (0 ≤ (Nat.cast (R := Int) i) ∧ (Nat.cast (R := Int) i) < (Nat.cast (R := Int) (a.map chD).length)), decide (0 ≤ (Nat.cast (R := Int) i) ∧ (Nat.cast (R := Int) i) < (Nat.cast (R := Int) (b.map chD).length)), isR (DV.lst 3 (List.map vD x.3) false), isR (DV.lst 3 (List.map vD y.3) false), decide (0 ≤ (Nat.cast (R := Int) i) ∧ (Nat.cast (R := Int) i) < (Nat.cast (R := Int) (a.map chD).length)), decide (0 ≤ (Nat.cast (R := Int) i) ∧ (Nat.cast (R := Int) i) < (Nat.cast (R := Int) (b.map chD).length)), isR (DV.lst 3 (List.map vD x.4) false), isR (DV.lst 3 (List.map vD y.4) false)] [(RV.d (DV.bool (decide ((Nat.cast (R := Int) i) < (Nat.cast (R := Int) (a.map chD).length)))), RV.d (DV.bool true)), (RV.iptr ((a.map chD).getD (Nat.cast (R := Int) i).toNat DV.nilp) 0, RV.iptr (DV.agg [DV.str x.1, DV.lst 3 (List.map vD x.2) false, DV.lst 3 (List.map vD x.3) false, DV.lst 3 (List.map vD x.4) false]) 0), (RV.iptr ((b.map chD).getD (Nat.cast (R := Int) i).toNat DV.nilp) 0, RV.iptr (DV.agg [DV.str y.1, DV.lst 3 (List.map vD y.2) false, DV.lst 3 (List.map vD y.3) false, DV.lst 3 (List.map vD y.4) false]) 0), (RV.d (DV.bool !x.1 == y.1), RV.d (DV.bool false)), (RV.d (DV.bool false), RV.d (DV.bool false)), (RV.iptr ((a.map chD).getD (Nat.cast (R := Int) i).toNat DV.nilp) 0, RV.iptr (DV.agg [DV.str x.1, DV.lst 3 (List.map vD x.2) false, DV.lst 3 (List.map vD x.3) false, DV.lst 3 (List.map vD x.4) false]) 0), (RV.iptr ((b.map chD).getD (Nat.cast (R := Int) i).toNat DV.nilp) 0, RV.iptr (DV.agg [DV.str y.1, DV.lst 3 (List.map vD y.2) false, DV.lst 3 (List.map vD y.3) false, DV.lst 3 (List.map vD y.4) false]) 0), (RV.d (DV.bool (decide (unR ((chD x).cells.getD 1 DV.nilp) = unR ((chD y).cells.getD 1 DV.nilp)))), RV.d (DV.bool true)), (RV.d (DV.bool false), RV.d (DV.bool false)), (RV.iptr ((a.map chD).getD (Nat.cast (R := Int) i).toNat DV.nilp) 0, RV.iptr (DV.agg [DV.str x.1, DV.lst 3 (List.map vD x.2) false, DV.lst 3 (List.map vD x.3) false, DV.lst 3 (List.map vD x.4) false]) 0), (RV.iptr ((b.map chD).getD (Nat.cast (R := Int) i).toNat DV.nilp) 0, RV.iptr (DV.agg [DV.str y.1, DV.lst 3 (List.map vD y.2) false, DV.lst 3 (List.map vD y.3) false, DV.lst 3 (List.map vD y.4) false]) 0), (RV.d (DV.bool (decide (unR ((chD x).cells.getD 2 DV.nilp) = unR ((chD y).cells.getD 2 DV.nilp)))), RV.d (DV.bool true)), (RV.d (DV.bool false), RV.d (DV.bool false)), (RV.iptr ((a.map chD).getD (Nat.cast (R := Int) i).toNat DV.nilp) 0, RV.iptr (DV.agg [DV.str x.1, DV.lst 3 (List.map vD x.2) false, DV.lst 3 (List.map vD x.3) false, DV.lst 3 (List.map vD x.4) false]) 0), (RV.iptr ((b.map chD).getD (Nat.cast (R := Int) i).toNat DV.nilp) 0, RV.iptr (DV.agg [DV.str y.1, DV.lst 3 (List.map vD y.2) false, DV.lst 3 (List.map vD y.3) false, DV.lst 3 (List.map vD y.4) false]) 0), (RV.d (DV.bool (decide (unR ((chD x).cells.getD 3 DV.nilp) = unR ((chD y).cells.getD 3 DV.nilp)))), RV.d (DV.bool (decide (x.n = y.n)))), (RV.d (DV.bool !decide (x.n = y.n)), RV.d (DV.bool true))] rfl (by kernel_rfl : runEnd (cfT t2) true _ 1000 0 _ _ (saS (a.map chD) (b.map chD) i) = some (RV.d (DV.bool false), [], _, _)) (by refine ⟨?_, ?_, ?_, ?_, ?_, ?_, ?_, ?_, ?_, ?_, ?_, ?_, ?_, ?_, trivial⟩ <;> (have hlt := lt_map h14; first | exact bd_map hlt | exact bd_map (hb2 hlt) | exact ok_k (hxo hlt) | exact ok_k (hyo hlt) | exact ok_o (hxo hlt) | exact ok_o (hyo hlt) | exact ok_n (hxo hlt) | exact ok_n (hyo hlt))) (by refine ⟨le_bool h14, ?_, ?_, ?_, ?_, ?_, ?_, ?_, ?_, ?_, ?_, ?_, ?_, ?_, ?_, ?_, le_bool h69, trivial⟩ <;> (have hlt := lt_map h14; first | exact ov_chg hlt (hx hlt) | exact ov_chg (hb2 hlt) (hy (hb2 hlt)) | exact ov_Eb (decide_eq_true (by assumption)) | exact ov_Eb (decide_eq_false (by assumption)) | exact ov_E x.n y.n | exact le_bool rfl | exact ov_succ (by omega) | exact le_bool rfl | exact le_bool (by simpa using c1))) ⟨by first | (rw [hend h14]; done) | first | (rw [hno (lt_map h14) (fun e => c1 (by rw [e]))]; done) | (rw [hno (lt_map h14) (fun e => c2 (by rw [e]))]; done) | (rw [hno (lt_map h14) (fun e => c3 (by rw [e]))]; done) | (have c4 : x.n ≠ y.n := (by simpa using h69); rw [hno (lt_map h14) (fun e => c4 (by rw [e]))]), rfl⟩
            · skip
              refine WK.segA ok 1000 0 [(19, RV.iptr (DV.agg [DV.str x.1, DV.lst 3 (List.map vD x.2) false, DV.lst 3 (List.map vD x.3) false, DV.lst 3 (List.map vD x.4) false]) 0), (24, RV.iptr (DV.agg [DV.str y.1, DV.lst 3 (List.map vD y.2) false, DV.lst 3 (List.map vD y.3) false, DV.lst 3 (List.map vD y.4) false]) 0), (27, RV.d (DV.bool false)), (28, RV.d (DV.bool false)), (42, RV.d (DV.bool false)), (56, RV.d (DV.bool false)), (31, RV.iptr (DV.agg [DV.str x.1, DV.lst 3 (List.map vD x.2) false, DV.lst 3 (List.map vD x.3) false, DV.lst 3 (List.map vD x.4) false]) 0), (36, RV.iptr (DV.agg [DV.str y.1, DV.lst 3 (List.map vD y.2) false, DV.lst 3 (List.map vD y.3) false, DV.lst 3 (List.map vD y.4) false]) 0), (39, RV.d (DV.bool true)), (45, RV.iptr (DV.agg [DV.str x.1, DV.lst 3 (List.map vD x.2) false, DV.lst 3 (List.map vD x.3) false, DV.lst 3 (List.map vD x.4) false]) 0), (50, RV.iptr (DV.agg [DV.str y.1, DV.lst 3 (List.map vD y.2) false, DV.lst 3 (List.map vD y.3) false, DV.lst 3 (List.map vD y.4) false]) 0), (53, RV.d (DV.bool true)), (59, RV.iptr (DV.agg [DV.str x.1, DV.lst 3 (List.map vD x.2) false, DV.lst 3 (List.map vD x.3) false, DV.lst 3 (List.map vD x.4) false]) 0), (64, RV.iptr (DV.agg [DV.str y.1, DV.lst 3 (List.map vD y.2) false, DV.lst 3 (List.map vD y.3) false, DV.lst 3 (List.map vD y.4) false]) 0), (67, RV.d (DV.bool (decide (x.n = y.n)))), (16, RV.d (DV.int Go.IntKind.i64 (Nat.cast (R := Int) (i + 1)))), (14, RV.d (DV.bool true)), (69, RV.d (DV.bool false))] [] [0, 1, 5] [decide (0 ≤ (Nat.cast (R := Int) i) ∧ (Nat.cast (R := Int) i) < (Nat.cast (R := Int) (a.map chD).length)), decide (0 ≤ (Nat.cast (R := Int) i) ∧ (Nat.cast (R := Int) i) < (Nat.cast (R := Int) (b.map chD).length)), decide (0 ≤ (Nat.cast (R := Int) i) ∧ (Nat.cast (R := Int) i) < (Nat.cast (R := Int) (a.map chD).length)), decide (0 ≤ (Nat.cast (R := Int) i) ∧ (Nat.cast (R := Int) i) < (Nat.cast (R := Int) (b.map chD).length)), isR (DV.lst 3 (List.map vD x.2) false), isR (DV.lst 3 (List.map vD y.2) false), decide (0 ≤ (Nat.cast (R := Int) i) ∧ (Nat.cast (R := Int) i) < (Nat.cast (R := Int) (a.map chD).length)), decide (0 ≤ (Nat.cast (R := Int) i) ∧ (Nat.cast (R := Int) i) < (Nat.cast (R := Int) (b.map chD).length)), isR (DV.lst 3 (List.map vD x.3) false), isR (DV.lst 3 (List.map vD y.3) false), decide (0 ≤ (Nat.cast (R := Int) i) ∧ (Nat.cast (R := Int) i) < (Nat.cast (R := Int) (a.map chD).length)), decide (0 ≤ (Nat.cast (R := Int) i) ∧ (Nat.cast (R := Int) i) < (Nat.cast (R := Int) (b.map chD).length)), isR (DV.lst 3 (List.map vD x.4) false), isR (DV.lst 3 (List.map vD y.4) false)] [(RV.d (DV.bool (decide ((Nat.cast (R := Int) i) < (Nat.cast (R := Int) (a.map chD).length)))), RV.d (DV.bool true)), (RV.iptr ((a.map chD).getD (Nat.cast (R := Int) i).toNat DV.nilp) 0, RV.iptr (DV.agg [DV.str x.1, DV.lst 3 (List.map vD x.2) false, DV.lst 3 (List.map vD x.3) false, DV.lst 3 (List.map vD x.4) false]) 0), (RV.iptr ((b.map chD).getD (Nat.cast (R := Int) i).toNat DV.nilp) 0, RV.iptr (DV.agg [DV.str y.1, DV.lst 3 (List.map vD y.2) false, DV.lst 3 (List.map vD y.3) false, DV.lst 3 (List.map vD y.4) false]) 0), (RV.d (DV.bool !x.1 == y.1), RV.d (DV.bool false)), (RV.d (DV.bool false), RV.d (DV.bool false)), (RV.iptr ((a.map chD).getD (Nat.cast (R := Int) i).toNat DV.nilp) 0, RV.iptr (DV.agg [DV.str x.1, DV.lst 3 (List.map vD x.2) false, DV.lst 3 (List.map vD x.3) false, DV.lst 3 (List.map vD x.4) false]) 0), (RV.iptr ((b.map chD).getD (Nat.cast (R := Int) i).toNat DV.nilp) 0, RV.iptr (DV.agg [DV.str y.1, DV.lst 3 (List.map vD y.2) false, DV.lst 3 (List.map vD y.3) false, DV.lst 3 (List.map vD y.4) false]) 0), (RV.d (DV.bool (decide (unR ((chD x).cells.getD 1 DV.nilp) = unR ((chD y).cells.getD 1 DV.nilp)))), RV.d (DV.bool true)), (RV.d (DV.bool false), RV.d (DV.bool false)), (RV.iptr ((a.map chD).getD (Nat.cast (R := Int) i).toNat DV.nilp) 0, RV.iptr (DV.agg [DV.str x.1, DV.lst 3 (List.map vD x.2) false, DV.lst 3 (List.map vD x.3) false, DV.lst 3 (List.map vD x.4) false]) 0), (RV.iptr ((b.map chD).getD (Nat.cast (R := Int) i).toNat DV.nilp) 0, RV.iptr (DV.agg [DV.str y.1, DV.lst 3 (List.map vD y.2) false, DV.lst 3 (List.map vD y.3) false, DV.lst 3 (List.map vD y.4) false]) 0), (RV.d (DV.bool (decide (unR ((chD x).cells.getD 2 DV.nilp) = unR ((chD y).cells.getD 2 DV.nilp)))), RV.d (DV.bool true)), (RV.d (DV.bool false), RV.d (DV.bool false)), (RV.iptr ((a.map chD).getD (Nat.cast (R := Int) i).toNat DV.nilp) 0, RV.iptr (DV.agg [DV.str x.1, DV.lst 3 (List.map vD x.2) false, DV.lst 3 (List.map vD x.3) false, DV.lst 3 (List.map vD x.4) false]) 0), (RV.iptr ((b.map chD).getD (Nat.cast (R := Int) i).toNat DV.nilp) 0, RV.iptr (DV.agg [DV.str y.1, DV.lst 3 (List.map vD y.2) false, DV.lst 3 (List.map vD y.3) false, DV.lst 3 (List.map vD y.4) false]) 0), (RV.d (DV.bool (decide (unR ((chD x).cells.getD 3 DV.nilp) = unR ((chD y).cells.getD 3 DV.nilp)))), RV.d (DV.bool (decide (x.n = y.n)))), (RV.d (DV.bool !decide (x.n = y.n)), RV.d (DV.bool false)), (RV.d (DV.int Go.IntKind.i64 (Go.IntKind.i64.wrap ((Nat.cast (R := Int) i) + 1))), RV.d (DV.int Go.IntKind.i64 (Nat.cast (R := Int) (i + 1))))] rfl (by kernel_rfl : runSegA (cfT t2) 1000 0 _ _ _ _ (saS (a.map chD) (b.map chD) i) = some (stackAt saC 0, saS (a.map chD) (b.map chD) (i + 1), _, _)) (by refine ⟨?_, ?_, ?_, ?_, ?_, ?_, ?_, ?_, ?_, ?_, ?_, ?_, ?_, ?_, trivial⟩ <;> (have hlt := lt_map h14; first | exact bd_map hlt | exact bd_map (hb2 hlt) | exact ok_k (hxo hlt) | exact ok_k (hyo hlt) | exact ok_o (hxo hlt) | exact ok_o (hyo hlt) | exact ok_n (hxo hlt) | exact ok_n (hyo hlt))) (by refine ⟨le_bool h14, ?_, ?_, ?_, ?_, ?_, ?_, ?_, ?_, ?_, ?_, ?_, ?_, ?_, ?_, ?_, le_bool h69, ?_, trivial⟩ <;> (have hlt := lt_map h14; first | exact ov_chg hlt (hx hlt) | exact ov_chg (hb2 hlt) (hy (hb2 hlt)) | exact ov_Eb (decide_eq_true (by assumption)) | exact ov_Eb (decide_eq_false (by assumption)) | exact ov_E x.n y.n | exact le_bool rfl | exact ov_succ (by omega) | exact le_bool rfl | exact le_bool (by simpa using c1))) ?_
              have hl := lt_map h14
              have c4 : x.n = y.n := (by simpa using h69)
              refine ih (i + 1) ⟨hl, ?_⟩ (by omega)
              rw [List.take_add_one, List.take_add_one, ht, List.getElem?_eq_getElem hl, List.getElem?_eq_getElem (hb2 hl), hx hl, hy (hb2 hl), chg_ext c1 c2 c3 c4]
          · skip
            exact WK.fin ok 1000 0 [(19, RV.iptr (DV.agg [DV.str x.1, DV.lst 3 (List.map vD x.2) false, DV.lst 3 (List.map vD x.3) false, DV.lst 3 (List.map vD x.4) false]) 0), (24, RV.iptr (DV.agg [DV.str y.1, DV.lst 3 (List.map vD y.2) false, DV.lst 3 (List.map vD y.3) false, DV.lst 3 (List.map vD y.4) false]) 0), (27, RV.d (DV.bool false)), (28, RV.d (DV.bool false)), (42, RV.d (DV.bool false)), (56, RV.d (DV.bool false)), (31, RV.iptr (DV.agg [DV.str x.1, DV.lst 3 (List.map vD x.2) false, DV.lst 3 (List.map vD x.3) false, DV.lst 3 (List.map vD x.4) false]) 0), (36, RV.iptr (DV.agg [DV.str y.1, DV.lst 3 (List.map vD y.2) false, DV.lst 3 (List.map vD y.3) false, DV.lst 3 (List.map vD y.4) false]) 0), (39, RV.d (DV.bool true)), (45, RV.iptr (DV.agg [DV.str x.1, DV.lst 3 (List.map vD x.2) false, DV.lst 3 (List.map vD x.3) false, DV.lst 3 (List.map vD x.4) false]) 0), (50, RV.iptr (DV.agg [DV.str y.1, DV.lst 3 (List.map vD y.2) false, DV.lst 3 (List.map vD y.3) false, DV.lst 3 (List.map vD y.4) false]) 0), (53, RV.d (DV.bool true)), (59, RV.iptr (DV.agg [DV.str x.1, DV.lst 3 (List.map vD x.2) false, DV.lst 3 (List.map vD x.3) false, DV.lst 3 (List.map vD x.4) false]) 0), (64, RV.iptr (DV.agg [DV.str y.1, DV.lst 3 (List.map vD y.2) false, DV.lst 3 (List.map vD y.3) false, DV.lst 3 (List.map vD y.4) false]) 0), (67, RV.d (DV.bool (decide (x.n = y.n)))), (16, RV.d (DV.int Go.IntKind.i64 (Nat.cast (R := Int) (i + 1)))), (14, RV.d (DV.bool false))] [] [(RV.d (DV.bool (decide ((Nat.cast (R := Int) i) < (Nat.cast (R := Int) (a.map chD).length)))), RV.d (DV.bool false))] rfl (by kernel_rfl : runEnd (cfT t2) true _ 1000 0 _ _ (saS (a.map chD) (b.map chD) i) = some (RV.d (DV.bool true), [], _, _)) trivial ⟨le_bool h14, trivial⟩ ⟨by first | (rw [hend h14]; done) | first | (rw [hno (lt_map h14) (fun e => c1 (by rw [e]))]; done) | (rw [hno (lt_map h14) (fun e => c2 (by rw [e]))]; done) | (rw [hno (lt_map h14) (fun e => c3 (by rw [e]))]; done) | (have c4 : x.n ≠ y.n := (by simpa using h69); rw [hno (lt_map h14) (fun e => c4 (by rw [e]))]), rfl⟩
        · skip
          rcases Bool.eq_false_or_eq_true (decide ((Nat.cast (R := Int) i) < (Nat.cast (R := Int) (a.map chD).length)) : Bool) with h14 | h14
          · skip
            exact WK.fin ok 1000 0 [(19, RV.iptr (DV.agg [DV.str x.1, DV.lst 3 (List.map vD x.2) false, DV.lst 3 (List.map vD x.3) false, DV.lst 3 (List.map vD x.4) false]) 0), (24, RV.iptr (DV.agg [DV.str y.1, DV.lst 3 (List.map vD y.2) false, DV.lst 3 (List.map vD y.3) false, DV.lst 3 (List.map vD y.4) false]) 0), (27, RV.d (DV.bool false)), (28, RV.d (DV.bool false)), (42, RV.d (DV.bool false)), (56, RV.d (DV.bool true)), (69, RV.d (DV.bool true)), (31, RV.iptr (DV.agg [DV.str x.1, DV.lst 3 (List.map vD x.2) false, DV.lst 3 (List.map vD x.3) false, DV.lst 3 (List.map vD x.4) false]) 0), (36, RV.iptr (DV.agg [DV.str y.1, DV.lst 3 (List.map vD y.2) false, DV.lst 3 (List.map vD y.3) false, DV.lst 3 (List.map vD y.4) false]) 0), (39, RV.d (DV.bool true)), (45, RV.iptr (DV.agg [DV.str x.1, DV.lst 3 (List.map vD x.2) false, DV.lst 3 (List.map vD x.3) false, DV.lst 3 (List.map vD x.4) false]) 0), (50, RV.iptr (DV.agg [DV.str y.1, DV.lst 3 (List.map vD y.2) false, DV.lst 3 (List.map vD y.3) false, DV.lst 3 (List.map vD y.4) false]) 0), (53, RV.d (DV.bool false)), (14, RV.d (DV.bool true))] [decide (0 ≤ (Nat.cast (R := Int) i) ∧ (Nat.cast (R := Int) i) < (Nat.cast (R := Int) (a.map chD).length)), decide (0 ≤ (Nat.cast (R := Int) i) ∧ (Nat.cast (R := Int) i) < (Nat.cast (R := Int) (b.map chD).length)), decide (0 ≤ (Nat.cast (R := Int) i) ∧ (Nat.cast (R := Int) i) < (Nat.cast (R := Int) (a.map chD).length)), decide (0 ≤ (Nat.cast (R := Int) i) ∧ (Nat.cast (R := Int) i) < (Nat.cast (R := Int) (b.map chD).length)), isR (DV.lst 3 (List.map vD x.2) false), isR (DV.lst 3 (List.map vD y.2) false), decide (0 ≤ (Nat.cast (R := Int) i) ∧ (Nat.cast (R := Int) i) < (Nat.cast (R := Int) (a.map chD).length)), decide (0 ≤ (Nat.cast (R := Int) i) ∧ (Nat.cast (R := Int) i) < (Nat.cast (R := Int) (b.map chD).length)), isR (DV.lst 3 (List.map vD x.3) false), isR (DV.lst 3 (List.map vD y.3) false)] [(RV.d (DV.bool (decide ((Nat.cast (R := Int) i) < (Nat.cast (R := Int) (a.map chD).length)))), RV.d (DV.bool true)), (RV.iptr ((a.map chD).getD (Nat.cast (R := Int) i).toNat DV.nilp) 0, RV.iptr (DV.agg [DV.str x.1, DV.lst 3 (List.map vD x.2) false, DV.lst 3 (List.map vD x.3) false, DV.lst 3 (List.map vD x.4) false]) 0), (RV.iptr ((b.map chD).getD (Nat.cast (R := Int) i).toNat DV.nilp) 0, RV.iptr (DV.agg [DV.str y.1, DV.lst 3 (List.map vD y.2) false, DV.lst 3 (List.map vD y.3) false, DV.lst 3 (List.map vD y.4) false]) 0), (RV.d (DV.bool !x.1 == y.1), RV.d (DV.bool false)), (RV.d (DV.bool false), RV.d (DV.bool false)), (RV.iptr ((a.map chD).getD (Nat.cast (R := Int) i).toNat DV.nilp) 0, RV.iptr (DV.agg [DV.str x.1, DV.lst 3 (List.map vD x.2) false, DV.lst 3 (List.map vD x.3) false, DV.lst 3 (List.map vD x.4) false]) 0), (RV.iptr ((b.map chD).getD (Nat.cast (R := Int) i).toNat DV.nilp) 0, RV.iptr (DV.agg [DV.str y.1, DV.lst 3 (List.map vD y.2) false, DV.lst 3 (List.map vD y.3) false, DV.lst 3 (List.map vD y.4) false]) 0), (RV.d (DV.bool (decide (unR ((chD x).cells.getD 1 DV.nilp) = unR ((chD y).cells.getD 1 DV.nilp)))), RV.d (DV.bool true)), (RV.d (DV.bool false), RV.d (DV.bool false)), (RV.iptr ((a.map chD).getD (Nat.cast (R := Int) i).toNat DV.nilp) 0, RV.iptr (DV.agg [DV.str x.1, DV.lst 3 (List.map vD x.2) false, DV.lst 3 (List.map vD x.3) false, DV.lst 3 (List.map vD x.4) false]) 0), (RV.iptr ((b.map chD).getD (Nat.cast (R := Int) i).toNat DV.nilp) 0, RV.iptr (DV.agg [DV.str y.1, DV.lst 3 (List.map vD y.2) false, DV.lst 3 (List.map vD y.3) false, DV.lst 3 (List.map vD y.4) false]) 0), (RV.d (DV.bool (decide (unR ((chD x).cells.getD 2 DV.nilp) = unR ((chD y).cells.getD 2 DV.nilp)))), RV.d (DV.bool false)), (RV.d (DV.bool true), RV.d (DV.bool true)), (RV.d (DV.bool true), RV.d (DV.bool true))] rfl (by kernel_rfl : runEnd (cfT t2) true _ 1000 0 _ _ (saS (a.map chD) (b.map chD) i) = some (RV.d (DV.bool false), [], _, _)) (by refine ⟨?_, ?_, ?_, ?_, ?_, ?_, ?_, ?_, ?_, ?_, trivial⟩ <;> (have hlt := lt_map h14; first | exact bd_map hlt | exact bd_map (hb2 hlt) | exact ok_k (hxo hlt) | exact ok_k (hyo hlt) | exact ok_o (hxo hlt) | exact ok_o (hyo hlt) | exact ok_n (hxo hlt) | exact ok_n (hyo hlt))) (by refine ⟨le_bool h14, ?_, ?_, ?_, ?_, ?_, ?_, ?_, ?_, ?_, ?_, ?_, ?_, ?_, trivial⟩ <;> (have hlt := lt_map h14; first | exact ov_chg hlt (hx hlt) | exact ov_chg (hb2 hlt) (hy (hb2 hlt)) | exact ov_Eb (decide_eq_true (by assumption)) | exact ov_Eb (decide_eq_false (by assumption)) | exact ov_E x.n y.n | exact le_bool rfl | exact ov_succ (by omega) | exact le_bool rfl | exact le_bool (by simpa using c1))) ⟨by first | (rw [hend h14]; done) | first | (rw [hno (lt_map h14) (fun e => c1 (by rw [e]))]; done) | (rw [hno (lt_map h14) (fun e => c2 (by rw [e]))]; done) | (rw [hno (lt_map h14) (fun e => c3 (by rw [e]))]; done) | (have c4 : x.n ≠ y.n := (by simpa using h69); rw [hno (lt_map h14) (fun e => c4 (by rw [e]))]), rfl⟩
          · skip
            exact WK.fin ok 1000 0 [(19, RV.iptr (DV.agg [DV.str x.1, DV.lst 3 (List.map vD x.2) false, DV.lst 3 (List.map vD x.3) false, DV.lst 3 (List.map vD x.4) false]) 0), (24, RV.iptr (DV.agg [DV.str y.1, DV.lst 3 (List.map vD y.2) false, DV.lst 3 (List.map vD y.3) false, DV.lst 3 (List.map vD y.4) false]) 0), (27, RV.d (DV.bool false)), (28, RV.d (DV.bool false)), (42, RV.d (DV.bool false)), (56, RV.d (DV.bool true)), (69, RV.d (DV.bool true)), (31, RV.iptr (DV.agg [DV.str x.1, DV.lst 3 (List.map vD x.2) false, DV.lst 3 (List.map vD x.3) false, DV.lst 3 (List.map vD x.4) false]) 0), (36, RV.iptr (DV.agg [DV.str y.1, DV.lst 3 (List.map vD y.2) false, DV.lst 3 (List.map vD y.3) false, DV.lst 3 (List.map vD y.4) false]) 0), (39, RV.d (DV.bool true)), (45, RV.iptr (DV.agg [DV.str x.1, DV.lst 3 (List.map vD x.2) false, DV.lst 3 (List.map vD x.3) false, DV.lst 3 (List.map vD x.4) false]) 0), (50, RV.iptr (DV.agg [DV.str y.1, DV.lst 3 (List.map vD y.2) false, DV.lst 3 (List.map vD y.3) false, DV.lst 3 (List.map vD y.4) false]) 0), (53, RV.d (DV.bool false)), (14, RV.d (DV.bool false))] [] [(RV.d (DV.bool (decide ((Nat.cast (R := Int) i) < (Nat.cast (R := Int) (a.map chD).length)))), RV.d (DV.bool false))] rfl (by kernel_rfl : runEnd (cfT t2) true _ 1000 0 _ _ (saS (a.map chD) (b.map chD) i) = some (RV.d (DV.bool true), [], _, _)) trivial ⟨le_bool h14, trivial⟩ ⟨by first | (rw [hend h14]; done) | first | (rw [hno (lt_map h14) (fun e => c1 (by rw [e]))]; done) | (rw [hno (lt_map h14) (fun e => c2 (by rw [e]))]; done) | (rw [hno (lt_map h14) (fun e => c3 (by rw [e]))]; done) | (have c4 : x.n ≠ y.n := (by simpa using h69); rw [hno (lt_map h14) (fun e => c4 (by rw [e]))]), rfl⟩
      · skip
        rcases Bool.eq_false_or_eq_true (decide ((Nat.cast (R := Int) i) < (Nat.cast (R := Int) (a.map chD).length)) : Bool) with h14 | h14
        · skip
          exact WK.fin ok 1000 0 [(19, RV.iptr (DV.agg [DV.str x.1, DV.lst 3 (List.map vD x.2) false, DV.lst 3 (List.map vD x.3) false, DV.lst 3 (List.map vD x.4) false]) 0), (24, RV.iptr (DV.agg [DV.str y.1, DV.lst 3 (List.map vD y.2) false, DV.lst 3 (List.map vD y.3) false, DV.lst 3 (List.map vD y.4) false]) 0), (27, RV.d (DV.bool false)), (28, RV.d (DV.bool false)), (42, RV.d (DV.bool true)), (56, RV.d (DV.bool true)), (69, RV.d (DV.bool true)), (31, RV.iptr (DV.agg [DV.str x.1, DV.lst 3 (List.map vD x.2) false, DV.lst 3 (List.map vD x.3) false, DV.lst 3 (List.map vD x.4) false]) 0), (36, RV.iptr (DV.agg [DV.str y.1, DV.lst 3 (List.map vD y.2) false, DV.lst 3 (List.map vD y.3) false, DV.lst 3 (List.map vD y.4) false]) 0), (39, RV.d (DV.bool false)), (14, RV.d (DV.bool true))] [decide (0 ≤ (Nat.cast (R := Int) i) ∧ (Nat.cast (R := Int) i) < (Nat.cast (R := Int) (a.map chD).length)), decide (0 ≤ (Nat.cast (R := Int) i) ∧ (Nat.cast (R := Int) i) < (Nat.cast (R := Int) (b.map chD).length)), decide (0 ≤ (Nat.cast (R := Int) i) ∧ (Nat.cast (R := Int) i) < (Nat.cast (R := Int) (a.map chD).length)), decide (0 ≤ (Nat.cast (R := Int) i) ∧ (Nat.cast (R := Int) i) < (Nat.cast (R := Int) (b.map chD).length)), isR (DV.lst 3 (List.map vD x.2) false), isR (DV.lst 3 (List.map vD y.2) false)] [(RV.d (DV.bool (decide ((Nat.cast (R := Int) i) < (Nat.cast (R := Int) (a.map chD).length)))), RV.d (DV.bool true)), (RV.iptr ((a.map chD).getD (Nat.cast (R := Int) i).toNat DV.nilp) 0, RV.iptr (DV.agg [DV.str x.1, DV.lst 3 (List.map vD x.2) false, DV.lst 3 (List.map vD x.3) false, DV.lst 3 (List.map vD x.4) false]) 0), (RV.iptr ((b.map chD).getD (Nat.cast (R := Int) i).toNat DV.nilp) 0, RV.iptr (DV.agg [DV.str y.1, DV.lst 3 (List.map vD y.2) false, DV.lst 3 (List.map vD y.3) false, DV.lst 3 (List.map vD y.4) false]) 0), (RV.d (DV.bool !x.1 == y.1), RV.d (DV.bool false)), (RV.d (DV.bool false), RV.d (DV.bool false)), (RV.iptr ((a.map chD).getD (Nat.cast (R := Int) i).toNat DV.nilp) 0, RV.iptr (DV.agg [DV.str x.1, DV.lst 3 (List.map vD x.2) false, DV.lst 3 (List.map vD x.3) false, DV.lst 3 (List.map vD x.4) false]) 0), (RV.iptr ((b.map chD).getD (Nat.cast (R := Int) i).toNat DV.nilp) 0, RV.iptr (DV.agg [DV.str y.1, DV.lst 3 (List.map vD y.2) false, DV.lst 3 (List.map vD y.3) false, DV.lst 3 (List.map vD y.4) false]) 0), (RV.d (DV.bool (decide (unR ((chD x).cells.getD 1 DV.nilp) = unR ((chD y).cells.getD 1 DV.nilp)))), RV.d (DV.bool false)), (RV.d (DV.bool true), RV.d (DV.bool true)), (RV.d (DV.bool true), RV.d (DV.bool true)), (RV.d (DV.bool true), RV.d (DV.bool true))] rfl (by kernel_rfl : runEnd (cfT t2) true _ 1000 0 _ _ (saS (a.map chD) (b.map chD) i) = some (RV.d (DV.bool false), [], _, _)) (by refine ⟨?_, ?_, ?_, ?_, ?_, ?_, trivial⟩ <;> (have hlt := lt_map h14; first | exact bd_map hlt | exact bd_map (hb2 hlt) | exact ok_k (hxo hlt) | exact ok_k (hyo hlt) | exact ok_o (hxo hlt) | exact ok_o (hyo hlt) | exact ok_n (hxo hlt) | exact ok_n (hyo hlt))) (by refine ⟨le_bool h14, ?_, ?_, ?_, ?_, ?_, ?_, ?_, ?_, ?_, ?_, trivial⟩ <;> (have hlt := lt_map h14; first | exact ov_chg hlt (hx hlt) | exact ov_chg (hb2 hlt) (hy (hb2 hlt)) | exact ov_Eb (decide_eq_true (by assumption)) | exact ov_Eb (decide_eq_false (by assumption)) | exact ov_E x.n y.n | exact le_bool rfl | exact ov_succ (by omega) | exact le_bool rfl | exact le_bool (by simpa using c1))) ⟨by first | (rw [hend h14]; done) | first | (rw [hno (lt_map h14) (fun e => c1 (by rw [e]))]; done) | (rw [hno (lt_map h14) (fun e => c2 (by rw [e]))]; done) | (rw [hno (lt_map h14) (fun e => c3 (by rw [e]))]; done) | (have c4 : x.n ≠ y.n := (by simpa using h69); rw [hno (lt_map h14) (fun e => c4 (by rw [e]))]), rfl⟩
        · skip
          exact WK.fin ok 1000 0 [(19, RV.iptr (DV.agg [DV.str x.1, DV.lst 3 (List.map vD x.2) false, DV.lst 3 (List.map vD x.3) false, DV.lst 3 (List.map vD x.4) false]) 0), (24, RV.iptr (DV.agg [DV.str y.1, DV.lst 3 (List.map vD y.2) false, DV.lst 3 (List.map vD y.3) false, DV.lst 3 (List.map vD y.4) false]) 0), (27, RV.d (DV.bool false)), (28, RV.d (DV.bool false)), (42, RV.d (DV.bool true)), (56, RV.d (DV.bool true)), (69, RV.d (DV.bool true)), (31, RV.iptr (DV.agg [DV.str x.1, DV.lst 3 (List.map vD x.2) false, DV.lst 3 (List.map vD x.3) false, DV.lst 3 (List.map vD x.4) false]) 0), (36, RV.iptr (DV.agg [DV.str y.1, DV.lst 3 (List.map vD y.2) false, DV.lst 3 (List.map vD y.3) false, DV.lst 3 (List.map vD y.4) false]) 0), (39, RV.d (DV.bool false)), (14, RV.d (DV.bool false))] [] [(RV.d (DV.bool (decide ((Nat.cast (R := Int) i) < (Nat.cast (R := Int) (a.map chD).length)))), RV.d (DV.bool false))] rfl (by kernel_rfl : runEnd (cfT t2) true _ 1000 0 _ _ (saS (a.map chD) (b.map chD) i) = some (RV.d (DV.bool true), [], _, _)) trivial ⟨le_bool h14, trivial⟩ ⟨by first | (rw [hend h14]; done) | first | (rw [hno (lt_map h14) (fun e => c1 (by rw [e]))]; done) | (rw [hno (lt_map h14) (fun e => c2 (by rw [e]))]; done) | (rw [hno (lt_map h14) (fun e => c3 (by rw [e]))]; done) | (have c4 : x.n ≠ y.n := (by simpa using h69); rw [hno (lt_map h14) (fun e => c4 (by rw [e]))]), rfl⟩
    · skip
      rcases Bool.eq_false_or_eq_true (decide ((Nat.cast (R := Int) i) < (Nat.cast (R := Int) (a.map chD).length)) : Bool) with h14 | h14
      · skip
        exact WK.fin ok 1000 0 [(19, RV.iptr (DV.agg [DV.str x.1, DV.lst 3 (List.map vD x.2) false, DV.lst 3 (List.map vD x.3) false, DV.lst 3 (List.map vD x.4) false]) 0), (24, RV.iptr (DV.agg [DV.str y.1, DV.lst 3 (List.map vD y.2) false, DV.lst 3 (List.map vD y.3) false, DV.lst 3 (List.map vD y.4) false]) 0), (27, RV.d (DV.bool true)), (28, RV.d (DV.bool true)), (42, RV.d (DV.bool true)), (56, RV.d (DV.bool true)), (69, RV.d (DV.bool true)), (14, RV.d (DV.bool true))] [decide (0 ≤ (Nat.cast (R := Int) i) ∧ (Nat.cast (R := Int) i) < (Nat.cast (R := Int) (a.map chD).length)), decide (0 ≤ (Nat.cast (R := Int) i) ∧ (Nat.cast (R := Int) i) < (Nat.cast (R := Int) (b.map chD).length))] [(RV.d (DV.bool (decide ((Nat.cast (R := Int) i) < (Nat.cast (R := Int) (a.map chD).length)))), RV.d (DV.bool true)), (RV.iptr ((a.map chD).getD (Nat.cast (R := Int) i).toNat DV.nilp) 0, RV.iptr (DV.agg [DV.str x.1, DV.lst 3 (List.map vD x.2) false, DV.lst 3 (List.map vD x.3) false, DV.lst 3 (List.map vD x.4) false]) 0), (RV.iptr ((b.map chD).getD (Nat.cast (R := Int) i).toNat DV.nilp) 0, RV.iptr (DV.agg [DV.str y.1, DV.lst 3 (List.map vD y.2) false, DV.lst 3 (List.map vD y.3) false, DV.lst 3 (List.map vD y.4) false]) 0), (RV.d (DV.bool !x.1 == y.1), RV.d (DV.bool true)), (RV.d (DV.bool true), RV.d (DV.bool true)), (RV.d (DV.bool true), RV.d (DV.bool true)), (RV.d (DV.bool true), RV.d (DV.bool true)), (RV.d (DV.bool true), RV.d (DV.bool true))] rfl (by kernel_rfl : runEnd (cfT t2) true _ 1000 0 _ _ (saS (a.map chD) (b.map chD) i) = some (RV.d (DV.bool false), [], _, _)) (by refine ⟨?_, ?_, trivial⟩ <;> (have hlt := lt_map h14; first | exact bd_map hlt | exact bd_map (hb2 hlt) | exact ok_k (hxo hlt) | exact ok_k (hyo hlt) | exact ok_o (hxo hlt) | exact ok_o (hyo hlt) | exact ok_n (hxo hlt) | exact ok_n (hyo hlt))) (by refine ⟨le_bool h14, ?_, ?_, ?_, ?_, ?_, ?_, ?_, trivial⟩ <;> (have hlt := lt_map h14; first | exact ov_chg hlt (hx hlt) | exact ov_chg (hb2 hlt) (hy (hb2 hlt)) | exact ov_Eb (decide_eq_true (by assumption)) | exact ov_Eb (decide_eq_false (by assumption)) | exact ov_E x.n y.n | exact le_bool rfl | exact ov_succ (by omega) | exact le_bool rfl | exact le_bool (by simpa using c1))) ⟨by first | (rw [hend h14]; done) | first | (rw [hno (lt_map h14) (fun e => c1 (by rw [e]))]; done) | (rw [hno (lt_map h14) (fun e => c2 (by rw [e]))]; done) | (rw [hno (lt_map h14) (fun e => c3 (by rw [e]))]; done) | (have c4 : x.n ≠ y.n := (by simpa using h69); rw [hno (lt_map h14) (fun e => c4 (by rw [e]))]), rfl⟩
      · skip
        exact WK.fin ok 1000 0 [(19, RV.iptr (DV.agg [DV.str x.1, DV.lst 3 (List.map vD x.2) false, DV.lst 3 (List.map vD x.3) false, DV.lst 3 (List.map vD x.4) false]) 0), (24, RV.iptr (DV.agg [DV.str y.1, DV.lst 3 (List.map vD y.2) false, DV.lst 3 (List.map vD y.3) false, DV.lst 3 (List.map vD y.4) false]) 0), (27, RV.d (DV.bool true)), (28, RV.d (DV.bool true)), (42, RV.d (DV.bool true)), (56, RV.d (DV.bool true)), (69, RV.d (DV.bool true)), (14, RV.d (DV.bool false))] [] [(RV.d (DV.bool (decide ((Nat.cast (R := Int) i) < (Nat.cast (R := Int) (a.map chD).length)))), RV.d (DV.bool false))] rfl (by kernel_rfl : runEnd (cfT t2) true _ 1000 0 _ _ (saS (a.map chD) (b.map chD) i) = some (RV.d (DV.bool true), [], _, _)) trivial ⟨le_bool h14, trivial⟩ ⟨by first | (rw [hend h14]; done) | first | (rw [hno (lt_map h14) (fun e => c1 (by rw [e]))]; done) | (rw [hno (lt_map h14) (fun e => c2 (by rw [e]))]; done) | (rw [hno (lt_map h14) (fun e => c3 (by rw [e]))]; done) | (have c4 : x.n ≠ y.n := (by simpa using h69); rw [hno (lt_map h14) (fun e => c4 (by rw [e]))]), rfl⟩
  rcases Bool.eq_false_or_eq_true ((Nat.cast (R := Int) (a.map chD).length) != (Nat.cast (R := Int) (b.map chD).length) : Bool) with h10 | h10
  · skip
    exact WK.fin ok 1000 0 [(10, RV.d (DV.bool true))] [] [(RV.d (DV.bool ((Nat.cast (R := Int) (a.map chD).length) != (Nat.cast (R := Int) (b.map chD).length))), RV.d (DV.bool true))] rfl (by kernel_rfl : runEnd (cfT t2) true _ 1000 0 _ _ (ini 70 [.d (chL a), .d (chL b)] []) = some (RV.d (DV.bool false), [], _, _)) trivial ⟨le_bool h10, trivial⟩ ⟨by congr 2; refine (decide_eq_false ?_).symm; rintro rfl; simp at h10, rfl⟩
  · skip
    refine WK.segA ok 1000 0 [(10, RV.d (DV.bool false))] [] [0, 1, 5] [] [(RV.d (DV.bool ((Nat.cast (R := Int) (a.map chD).length) != (Nat.cast (R := Int) (b.map chD).length))), RV.d (DV.bool false))] rfl (by kernel_rfl : runSegA (cfT t2) 1000 0 _ _ _ _ (ini 70 [.d (chL a), .d (chL b)] []) = some (stackAt saC 0, saS (a.map chD) (b.map chD) 0, _, _)) trivial ⟨le_bool h10, trivial⟩ ?_
    have e : (a.length : Int) = b.length := (by simpa using h10)
    exact hloop (by omega)
theorem sa_ent : EntOk Try.prog 16 (e2 smG) := by
  refine e2_ok fun x x2 y c hg hc => ?_
  simp only [smG, Option.some.injEq, Prod.mk.injEq] at hg
  obtain ⟨rfl, rfl⟩ := hg
  obtain ⟨a, rfl, wa⟩ := isL_spec (hc (isL x) (by simp))
  obtain ⟨l, rfl, hl⟩ := isL_spec (hc (isL x2) (by simp))
  rw [unL_chL, unL_chL]
  exact sa_c a l wa hl
end Go.Proofs.Ytljfolepmkcjlaa

/-
  The changes' laws ask first that a small thing goes right: a closed run.
-/
namespace Go.Proofs.Ytljfolepmkcjlaa
open Go.RowKit Am
set_option maxRecDepth 100000

theorem works22_c : C Try.prog 20 [] [] (fun r o => r = .d (.bool true) ∧ o = []) :=
  of_isTrue (lay_ok tb tb_ok brf 6000 1200 12) (by kernel_rfl : isTrue (layer Try.prog (konOf tb) brf cok 6000 1200 12 20 [] []) = true)
end Go.Proofs.Ytljfolepmkcjlaa

/-
  Plain laws of changes put together: key by key; three of them; there and back. No program in sight.
-/
namespace Go.Proofs.Ytljfolepmkcjlaa.Plain

/-! ### A list whose changes join those of another list, each at most once -/
/-- what a change comes to, followed by what stands at its key -/
def comb (x : Chg) : Option Chg → Chg
  | none => x
  | some y => ⟨x.t, x.k, x.o, y.n⟩
def links (b : List Chg) (x : Chg) : Bool := match look x b with
  | none => true
  | some y => decide (x.n = y.o)
def joinC (a b : List Chg) : List Chg := a.map (fun x => comb x (look x b)) ++ b.filter fun y => (look y a).isNone

theorem comb_key (x : Chg) (o : Option Chg) : (comb x o).t = x.t ∧ (comb x o).k = x.k := by cases o <;> exact ⟨rfl, rfl⟩
theorem findIdx_look {x : Chg} : ∀ {l : List Chg}, (l.findIdx? (fun y => keyB y x) = none ↔ look x l = none)
  | [] => by simp [look]
  | y :: r => by
    rw [List.findIdx?_cons, look_cons]
    cases h : keyB y x with
    | true => simp
    | false =>
      simp only [Bool.false_eq_true, if_false]
      rw [← findIdx_look (x := x) (l := r)]
      cases r.findIdx? (fun y => keyB y x) <;> simp
/-- one step where the key stands nowhere -/
theorem mStep_new {a : List Chg} {x : Chg} (h : look x a = none) : mStep a x = some (a ++ [x]) := by
  unfold mStep; rw [findIdx_look.2 h]
/-- one step where it stands -/
theorem mStep_old {a1 a2 : List Chg} {y x : Chg} (hn : ∀ z ∈ a1, keyB z x = false) (hk : keyB y x = true) :
    mStep (a1 ++ y :: a2) x = if y.n = x.o then some (a1 ++ ⟨y.t, y.k, y.o, x.n⟩ :: a2) else none := by
  have hf : (a1 ++ y :: a2).findIdx? (fun z => keyB z x) = some a1.length := by
    rw [List.findIdx?_eq_some_iff_getElem]
    refine ⟨by simp, by simpa using hk, fun j hj => ?_⟩
    rw [List.getElem_append_left hj]
    have := hn a1[j] (List.getElem_mem _)
    simp [this]
  unfold mStep
  rw [hf]
  simp only
  rw [show (a1 ++ y :: a2)[a1.length]? = some y by simp]
  simp only
  split
  · congr 1; simp
  · rfl
theorem look_split {x y : Chg} : ∀ {l : List Chg}, look x l = some y → ∃ l1 l2, l = l1 ++ y :: l2 ∧ ∀ z ∈ l1, keyB z x = false
  | [], h => by cases h
  | z :: r, h => by
    rw [look_cons] at h
    by_cases e : keyB z x = true
    · rw [if_pos e] at h; injection h with h; subst h
      exact ⟨[], r, rfl, by simp⟩
    · rw [if_neg e] at h
      obtain ⟨l1, l2, e1, e2⟩ := look_split h
      refine ⟨z :: l1, l2, by rw [e1]; rfl, fun w hw => ?_⟩
      rcases List.mem_cons.1 hw with rfl | hw
      · simpa using e
      · exact e2 w hw
/-- a list with no two of one key comes to itself -/
theorem mFold_self : ∀ {l a : List Chg}, nokey (a ++ l) → mFold a l = some (a ++ l)
  | [], a, _ => by simp [mFold]
  | x :: r, a, h => by
    have hx : look x a = none := look_none.2 fun y hy => (nokey_append.1 h).2.2 y hy x (by simp)
    simp only [mFold, mStep_new hx]
    have h2 : nokey ((a ++ [x]) ++ r) := by simpa using h
    rw [mFold_self h2]
    simp
theorem mFold_append : ∀ (l1 l2 a : List Chg), mFold a (l1 ++ l2) = match mFold a l1 with | none => none | some b => mFold b l2
  | [], l2, a => rfl
  | x :: r, l2, a => by
    simp only [List.cons_append, mFold]
    cases mStep a x with
    | none => rfl
    | some b => exact mFold_append r l2 b
/-- b's changes come behind a's: what has been gone through of b stands joined, b2 is to come -/
theorem mFold_join (a : List Chg) (ha : nokey a) : ∀ (b2 b1 : List Chg), nokey (b1 ++ b2) → (∀ x ∈ a, links b1 x = true) →
    mFold (joinC a b1) b2 = if (a.all (links (b1 ++ b2))) = true then some (joinC a (b1 ++ b2)) else none
  | [], b1, _, hl => by
    rw [List.append_nil, if_pos (List.all_eq_true.2 hl)]; rfl
  | y :: r, b1, hb, hl => by
    have hyb1 : look y b1 = none := look_none.2 fun z hz => (nokey_append.1 hb).2.2 z hz y (by simp)
    have hb' : nokey ((b1 ++ [y]) ++ r) := by simpa using hb
    have happ : b1 ++ y :: r = (b1 ++ [y]) ++ r := by simp
    -- x's partner among b1 and y
    have hlook : ∀ x : Chg, look x (b1 ++ [y]) = match look x b1 with | some z => some z | none => if keyB y x = true then some y else none := fun x => by
      rw [look_append]
      cases look x b1 with
      | some z => rfl
      | none => simp only [look_cons, look_nil]
    cases hy : look y a with
    | none =>
      -- a new key
      have hnx : ∀ x ∈ a, keyB y x = false := fun x hx => by
        cases e : keyB y x with
        | false => rfl
        | true => have := look_none.1 hy x hx; rw [keyB_symm e] at this; cases this
      have hla : ∀ x ∈ a, look x (b1 ++ [y]) = look x b1 := fun x hx => by
        rw [hlook x, hnx x hx]
        cases look x b1 <;> rfl
      have hj : joinC a (b1 ++ [y]) = joinC a b1 ++ [y] := by
        unfold joinC
        rw [List.filter_append]
        simp only [List.filter_cons, List.filter_nil, hy, Option.isNone_none, if_true]
        rw [← List.append_assoc]
        congr 2
        apply List.map_congr_left
        intro x hx
        rw [hla x hx]
      have hnew : look y (joinC a b1) = none := look_none.2 fun z hz => by
        rcases List.mem_append.1 hz with hz | hz
        · obtain ⟨x, hx, rfl⟩ := List.mem_map.1 hz
          have := hnx x hx
          cases e : keyB (comb x (look x b1)) y with
          | false => rfl
          | true =>
            rw [keyB_iff, (comb_key _ _).1, (comb_key _ _).2] at e
            rw [keyB_iff.2 ⟨e.1.symm, e.2.symm⟩] at this; cases this
        · exact look_none.1 hyb1 z (List.mem_filter.1 hz).1
      simp only [mFold, mStep_new hnew]
      rw [← hj, happ]
      refine mFold_join a ha r (b1 ++ [y]) hb' fun x hx => ?_
      have := hl x hx
      unfold links at this ⊢
      rw [hla x hx]; exact this
    | some x0 =>
      have hx0 := look_mem hy
      have hk0 := look_key hy
      obtain ⟨a1, a2, ea, hne⟩ := look_split hy
      have hk0' := keyB_symm hk0
      have hx0b1 : look x0 b1 = none := by rw [look_congr hk0]; exact hyb1
      -- others are not of this key
      have hoth : ∀ x ∈ a, x ≠ x0 → keyB y x = false := fun x hx hxe => by
        cases e : keyB y x with
        | false => rfl
        | true =>
          have h1 := look_of ha hx (x := y) (keyB_symm e)
          rw [hy] at h1; injection h1 with h1; exact absurd h1.symm hxe
      have hla : ∀ x ∈ a, x ≠ x0 → look x (b1 ++ [y]) = look x b1 := fun x hx hxe => by
        rw [hlook x, hoth x hx hxe]
        cases look x b1 <;> rfl
      have hla0 : look x0 (b1 ++ [y]) = some y := by
        rw [hlook x0, hx0b1]; simp only; rw [if_pos hk0']
      have hne1 : ∀ x ∈ a1, x ≠ x0 := fun x hx e => by
        have := hne x hx; rw [e, hk0] at this; cases this
      have hne2 : ∀ x ∈ a2, x ≠ x0 := fun x hx e => by
        rw [ea] at ha
        have := (nokey_append.1 ha).2.1.1 x hx
        rw [e, keyB_refl] at this; cases this
      have hj : joinC a b1 = a1.map (fun x => comb x (look x b1)) ++ x0 :: (a2.map (fun x => comb x (look x b1)) ++ b1.filter fun y => (look y a).isNone) := by
        have e0 : comb x0 (look x0 b1) = x0 := by rw [hx0b1]; rfl
        unfold joinC
        conv => lhs; arg 1; rw [ea]
        rw [List.map_append, List.map_cons, e0]
        simp
      have hj2 : joinC a (b1 ++ [y]) = a1.map (fun x => comb x (look x b1)) ++ ⟨x0.t, x0.k, x0.o, y.n⟩ :: (a2.map (fun x => comb x (look x b1)) ++ b1.filter fun y => (look y a).isNone) := by
        unfold joinC
        have hf : (b1 ++ [y]).filter (fun y => (look y a).isNone) = b1.filter fun y => (look y a).isNone := by
          rw [List.filter_append]
          simp only [List.filter_cons, List.filter_nil, hy, Option.isNone_some, Bool.false_eq_true, if_false, List.append_nil]
        have hm : a.map (fun x => comb x (look x (b1 ++ [y]))) = a1.map (fun x => comb x (look x b1)) ++ ⟨x0.t, x0.k, x0.o, y.n⟩ :: a2.map (fun x => comb x (look x b1)) := by
          have m1 : a1.map (fun x => comb x (look x (b1 ++ [y]))) = a1.map (fun x => comb x (look x b1)) := List.map_congr_left fun x hx => by
            rw [hla x (by rw [ea]; simp [hx]) (hne1 x hx)]
          have m2 : a2.map (fun x => comb x (look x (b1 ++ [y]))) = a2.map (fun x => comb x (look x b1)) := List.map_congr_left fun x hx => by
            rw [hla x (by rw [ea]; simp [hx]) (hne2 x hx)]
          conv => lhs; rw [ea]
          rw [List.map_append, List.map_cons, m1, m2, hla0]
          rfl
        rw [hf, hm]
        simp
      have hst := mStep_old (a1 := a1.map (fun x => comb x (look x b1))) (a2 := a2.map (fun x => comb x (look x b1)) ++ b1.filter fun y => (look y a).isNone) (y := x0) (x := y) (fun z hz => by
        obtain ⟨x, hx, rfl⟩ := List.mem_map.1 hz
        have := hne x hx
        simp only [keyB, (comb_key _ _).1, (comb_key _ _).2] at this ⊢; exact this) hk0
      rw [← hj] at hst
      by_cases he : x0.n = y.o
      · rw [if_pos he, ← hj2] at hst
        simp only [mFold, hst]
        rw [happ]
        refine mFold_join a ha r (b1 ++ [y]) hb' fun x hx => ?_
        by_cases hxe : x = x0
        · subst hxe; unfold links; rw [hla0]; exact decide_eq_true he
        · have := hl x hx
          unfold links at this ⊢
          rw [hla x hx hxe]; exact this
      · rw [if_neg he] at hst
        simp only [mFold, hst]
        rw [if_neg]
        intro hall
        have := List.all_eq_true.1 hall x0 hx0
        unfold links at this
        rw [happ, look_append, hla0] at this
        exact he (of_decide_eq_true this)
/-- two lists, each with no two of one key -/
theorem mFold_two {a b : List Chg} (ha : nokey a) (hb : nokey b) : mFold [] (a ++ b) = if a.all (links b) = true then some (joinC a b) else none := by
  rw [mFold_append, mFold_self (l := a) (a := []) (by simpa using ha)]
  simp only [List.nil_append]
  have h0 : joinC a [] = a := by
    unfold joinC
    simp only [List.filter_nil, List.append_nil, look_nil]
    conv => rhs; rw [← List.map_id a]
    apply List.map_congr_left
    intro x _; rfl
  have := mFold_join a ha b [] (by simpa using hb) (fun x _ => by unfold links; rw [look_nil])
  rw [h0, List.nil_append] at this
  exact this
end Go.Proofs.Ytljfolepmkcjlaa.Plain

/-
  Plain laws of changesets: two that come together; three; with their contrary; one upon the other, either way. No program in sight.
-/
namespace Go.Proofs.Ytljfolepmkcjlaa.Plain

/-! ### What may be -/
structure Set' (l : List Chg) : Prop where
  may : mayL l = true
  wf : ∀ c ∈ l, c.wf
theorem Set'.all {l : List Chg} (h : Set' l) : (∀ c ∈ l, mayC c = true ∧ rowOk c.k) ∧ sorted l := by
  have hm := h.may
  simp only [mayL, Bool.and_eq_true] at hm
  obtain ⟨a1, a2, _⟩ := mayI_spec hm.2 h.wf (by simp)
  exact ⟨a1, a2⟩
theorem Set'.nk {l : List Chg} (h : Set' l) : nokey l := nokey_sorted (fun c hc => (h.all.1 c hc).2) h.all.2
theorem Set'.len {l : List Chg} (h : Set' l) : l.length ≤ 1000 := by
  have hm := h.may
  simp only [mayL, Bool.and_eq_true, decide_eq_true_eq] at hm
  exact hm.1
theorem mayC_ne {c : Chg} (h : mayC c = true) : c.o ≠ c.n := by
  simp only [mayC, Bool.and_eq_true, Bool.not_eq_true', decide_eq_false_iff_not] at h
  exact h.1.1.1.2
theorem mayI_of : ∀ {l : List Chg} (p : Option Chg), (∀ c ∈ l, mayC c = true) → sorted l → (∀ q, p = some q → ∀ c ∈ l, cmpC q c < 0) → mayI p l = true
  | [], _, _, _, _ => rfl
  | x :: r, p, hm, hs, hp => by
    simp only [mayI, Bool.and_eq_true]
    refine ⟨⟨hm x (by simp), ?_⟩, mayI_of (some x) (fun c hc => hm c (by simp [hc])) hs.2 (fun q e c hc => by injection e with e; subst e; exact hs.1 c hc)⟩
    cases p with
    | none => rfl
    | some q => exact decide_eq_true (hp q rfl x (by simp))
theorem set_of {l : List Chg} (hm : ∀ c ∈ l, mayC c = true) (hw : ∀ c ∈ l, c.wf) (hs : sorted l) (hl : l.length ≤ 1000) : Set' l :=
  ⟨by simp only [mayL, Bool.and_eq_true, decide_eq_true_eq]; exact ⟨hl, mayI_of none hm hs (by simp)⟩, hw⟩
theorem set_empty {a : List Chg} (ha : nokey a) (h : ∀ z, look z a = none) : a = [] := by
  cases a with
  | nil => rfl
  | cons x r => have := h x; rw [look_self ha (by simp)] at this; cases this

/-! ### Two that come together -/
def both : Option Chg → Option Chg → Option Chg
  | some x, some y => if x.o = y.n then none else some ⟨x.t, x.k, x.o, y.n⟩
  | some x, none => some x
  | none, q => q
def cat (a b : List Chg) : List Chg := Srt.isort cmpC (live (joinC a b))

theorem nokey_join {a b : List Chg} (ha : nokey a) (hb : nokey b) : nokey (joinC a b) := by
  unfold joinC
  refine nokey_append.2 ⟨?_, nokey_filter _ hb, ?_⟩
  · clear hb
    induction a with
    | nil => trivial
    | cons x r ih =>
      refine ⟨fun y hy => ?_, ih ha.2⟩
      obtain ⟨z, hz, rfl⟩ := List.mem_map.1 hy
      have := ha.1 z hz
      simp only [keyB, (comb_key _ _).1, (comb_key _ _).2] at this ⊢; exact this
  · intro x hx y hy
    obtain ⟨z, hz, rfl⟩ := List.mem_map.1 hx
    have hy2 := (List.mem_filter.1 hy).2
    rw [Option.isNone_iff_eq_none] at hy2
    have := look_none.1 hy2 z hz
    simp only [keyB, (comb_key _ _).1, (comb_key _ _).2] at this ⊢; exact this
theorem look_map_key {f : Chg → Chg} (hf : ∀ x, (f x).t = x.t ∧ (f x).k = x.k) (z : Chg) : ∀ (l : List Chg), look z (l.map f) = (look z l).map f
  | [] => rfl
  | x :: r => by
    rw [List.map_cons, look_cons, look_cons, look_map_key hf z r]
    have : keyB (f x) z = keyB x z := by simp only [keyB, (hf x).1, (hf x).2]
    rw [this]
    split <;> rfl
theorem look_filter_not {z : Chg} {a : List Chg} : ∀ (b : List Chg), look z (b.filter fun y => (look y a).isNone) = if (look z a).isNone then look z b else none
  | [] => by simp [look]
  | y :: r => by
    rw [List.filter_cons, look_cons]
    by_cases hk : keyB y z = true
    · have e := look_congr hk a
      rw [if_pos hk]
      by_cases hn : (look y a).isNone = true
      · rw [if_pos hn, look_cons, if_pos hk, ← e, if_pos hn]
      · rw [if_neg hn, look_filter_not r, ← e, if_neg hn, if_neg hn]
    · rw [if_neg hk]
      split
      · rw [look_cons, if_neg hk]; exact look_filter_not r
      · exact look_filter_not r
theorem look_join {a b : List Chg} (z : Chg) : look z (joinC a b) = match look z a with | some x => some (comb x (look x b)) | none => look z b := by
  unfold joinC
  rw [look_append, look_map_key (f := fun x => comb x (look x b)) (fun x => comb_key _ _), look_filter_not]
  cases look z a with
  | none => simp
  | some x => rfl
theorem look_filter {p : Chg → Bool} (z : Chg) : ∀ {l : List Chg}, nokey l → look z (l.filter p) = match look z l with | some y => if p y = true then some y else none | none => none
  | [], _ => rfl
  | y :: r, hn => by
    rw [List.filter_cons, look_cons]
    by_cases hk : keyB y z = true
    · rw [if_pos hk]
      by_cases hp : p y = true
      · rw [if_pos hp, look_cons, if_pos hk]; simp only; rw [if_pos hp]
      · rw [if_neg hp, look_filter z hn.2]
        simp only
        rw [if_neg hp]
        have : look z r = none := look_none.2 fun w hw => by
          cases e : keyB w z with
          | false => rfl
          | true => have := hn.1 w hw; rw [keyB_trans hk (keyB_symm e)] at this; cases this
        rw [this]
    · rw [if_neg hk]
      split
      · rw [look_cons, if_neg hk]; exact look_filter z hn.2
      · exact look_filter z hn.2
theorem look_perm {a b : List Chg} (hp : a.Perm b) (hn : nokey a) (z : Chg) : look z a = look z b := by
  have hb := nokey_perm hp hn
  cases h : look z a with
  | none =>
    symm
    refine look_none.2 fun y hy => ?_
    exact look_none.1 h y (hp.mem_iff.2 hy)
  | some y => exact (look_of hb (hp.mem_iff.1 (look_mem h)) (look_key h)).symm
theorem nokey_cat {a b : List Chg} (ha : nokey a) (hb : nokey b) : nokey (cat a b) := nokey_perm (Srt.isort_ok preC _).2.symm (nokey_filter _ (nokey_join ha hb))
theorem look_cat {a b : List Chg} (ha : Set' a) (hb : Set' b) (z : Chg) : look z (cat a b) = both (look z a) (look z b) := by
  have hj := nokey_join ha.nk hb.nk
  unfold cat
  have hp := (Srt.isort_ok preC (live (joinC a b))).2
  rw [look_perm hp (nokey_perm hp.symm (nokey_filter _ hj))]
  unfold live
  rw [look_filter z hj, look_join]
  cases h : look z a with
  | none =>
    simp only
    cases h2 : look z b with
    | none => rfl
    | some y =>
      have := mayC_ne (hb.all.1 y (look_mem h2)).1
      simp [both, this]
  | some x =>
    have hx := mayC_ne (ha.all.1 x (look_mem h)).1
    have hxz : look x b = look z b := look_congr (look_key h) b
    simp only [hxz]
    cases h2 : look z b with
    | none => simp [both, comb, hx]
    | some y =>
      simp only [both, comb]
      by_cases e : x.o = y.n
      · simp [e]
      · simp [e]
theorem cat_mem {a b : List Chg} (ha : Set' a) (hb : Set' b) : ∀ c ∈ cat a b, mayC c = true ∧ c.wf := by
  intro c hc
  have hc2 := List.mem_filter.1 ((Srt.isort_ok preC _).2.mem_iff.1 hc)
  have hne : c.o ≠ c.n := by simpa using hc2.2
  rcases List.mem_append.1 hc2.1 with h | h
  · obtain ⟨x, hx, rfl⟩ := List.mem_map.1 h
    have mx := (ha.all.1 x hx).1
    have wx := ha.wf x hx
    cases h2 : look x b with
    | none => exact ⟨mx, wx⟩
    | some y =>
      have my := (hb.all.1 y (look_mem h2)).1
      have wy := hb.wf y (look_mem h2)
      rw [h2] at hne
      simp only [comb] at hne ⊢
      simp only [mayC, Bool.and_eq_true, Bool.not_eq_true', decide_eq_false_iff_not] at mx my ⊢
      exact ⟨⟨⟨⟨⟨mx.1.1.1.1, hne⟩, mx.1.1.2⟩, mx.1.2⟩, my.2⟩, wx.1, wx.2.1, wy.2.2⟩
  · have h := (List.mem_filter.1 h).1
    exact ⟨(hb.all.1 c h).1, hb.wf c h⟩
theorem cat_set {a b : List Chg} (ha : Set' a) (hb : Set' b) (hl : (cat a b).length ≤ 1000) : Set' (cat a b) := by
  have hn := nokey_cat ha.nk hb.nk
  have hm := cat_mem ha hb
  refine set_of (fun c hc => (hm c hc).1) (fun c hc => (hm c hc).2) (sorted_of (Srt.isort_ok preC _).1 (distB_nokey (fun c hc => mayC_key (hm c hc).1 (hm c hc).2) hn)) hl
theorem concat_eq {a b : List Chg} (ha : Set' a) (hb : Set' b) : concatC a b = if a.all (links b) = true then (if mayL (cat a b) = true then (cat a b, 0) else ([], 2)) else ([], 220) := by
  unfold concatC mergeC
  rw [ha.may, hb.may, mFold_two ha.nk hb.nk]
  simp only [Bool.and_self, if_true]
  split
  · rename_i h; split at h
    · cases h
    · rename_i hl; rw [if_neg hl]
  · rename_i A h; split at h
    · rename_i hl; injection h with h; subst h; rw [if_pos hl]; rfl
    · cases h
theorem concat_of {a b : List Chg} (ha : Set' a) (hb : Set' b) (hl : ∀ x ∈ a, links b x = true) (hlen : (cat a b).length ≤ 1000) : concatC a b = (cat a b, 0) := by
  rw [concat_eq ha hb, if_pos (List.all_eq_true.2 hl), if_pos (cat_set ha hb hlen).may]

/-! ### Three -/
/-! ### Contraries -/
theorem look_inv (z : Chg) (l : List Chg) : look z (l.map invC) = (look z l).map invC := look_map_key (f := invC) (fun _ => ⟨rfl, rfl⟩) z l
theorem sorted_inv : ∀ {l : List Chg}, sorted l → sorted (l.map invC)
  | [], _ => trivial
  | x :: r, h => ⟨fun y hy => by obtain ⟨z, hz, rfl⟩ := List.mem_map.1 hy; exact h.1 z hz, sorted_inv h.2⟩
theorem mayC_parts {x : Chg} : mayC x = true ↔ 1 ≤ x.t.length ∧ x.t.length ≤ 32 ∧ 1 ≤ x.k.length ∧ x.o ≠ x.n ∧ rowB x.k = true ∧ rowB x.o = true ∧ rowB x.n = true := by
  simp [mayC, and_assoc]
theorem mayC_inv {x : Chg} (h : mayC x = true) : mayC (invC x) = true := by
  rw [mayC_parts] at h ⊢
  obtain ⟨h1, h2, h3, h4, h5, h6, h7⟩ := h
  exact ⟨h1, h2, h3, fun e => h4 e.symm, h5, h7, h6⟩
theorem set_inv' {l : List Chg} (h : Set' l) : Set' (l.map invC) := by
  refine set_of (fun c hc => ?_) (fun c hc => ?_) (sorted_inv h.all.2) (by rw [List.length_map]; exact h.len)
  · obtain ⟨x, hx, rfl⟩ := List.mem_map.1 hc
    exact mayC_inv (h.all.1 x hx).1
  · obtain ⟨x, hx, rfl⟩ := List.mem_map.1 hc
    have := h.wf x hx
    exact ⟨this.1, this.2.2, this.2.1⟩
theorem inv_inv' (l : List Chg) : (l.map invC).map invC = l := by
  rw [List.map_map]
  conv => rhs; rw [← List.map_id l]
  apply List.map_congr_left
  intro x _; rfl
theorem invert_law {l : List Chg} (h : Set' l) : invertC l = (l.map invC, 0) ∧ invertC (l.map invC) = (l, 0) := by
  refine ⟨by unfold invertC; rw [h.may]; rfl, ?_⟩
  unfold invertC
  rw [(set_inv' h).may, inv_inv']; rfl
theorem contrary_law {l : List Chg} (h : Set' l) : concatC l (l.map invC) = ([], 0) := by
  have hm := set_inv' h
  have e : cat l (l.map invC) = [] := by
    refine set_empty (nokey_cat h.nk hm.nk) fun z => ?_
    rw [look_cat h hm, look_inv]
    cases look z l with
    | none => rfl
    | some x => simp [both, invC]
  rw [concat_of h hm (fun x hx => ?_) (by rw [e]; decide), e]
  unfold links
  rw [look_inv, look_self h.nk hx]
  exact decide_eq_true rfl
theorem contrary_law2 {l : List Chg} (h : Set' l) : concatC (l.map invC) l = ([], 0) := by
  have := contrary_law (set_inv' h)
  rwa [inv_inv'] at this
theorem merge_self {l : List Chg} (h : Set' l) : mergeC l = (l, 0) := by
  unfold mergeC
  rw [mFold_self (l := l) (a := []) (by simpa using h.nk)]
  simp only [List.nil_append]
  have hl : live l = l := by
    unfold live; rw [List.filter_eq_self]
    intro x hx
    have := mayC_ne (h.all.1 x hx).1
    simp [this]
  have hs : Srt.isort cmpC l = l := (isort_uniq (srtB_of h.all.2) (.refl _) (distB_nokey (fun c hc => (h.all.1 c hc).2) h.nk)).symm
  rw [hl, hs, h.may]; rfl
/-! ### One upon the other, either way -/
end Go.Proofs.Ytljfolepmkcjlaa.Plain

/-
  What the laws compare answers with: is, not, and their closures.
-/
namespace Go.Am
variable {P : Program}
/-- less said of the arguments -/
theorem C.args_le {f : FuncId} {args args' : List RV} {objs : List PObj} {Q : RV → List PObj → Prop} (hl : args.length = args'.length) (h : ∀ (i : Nat) (x y : RV), args[i]? = some x → args'[i]? = some y → RVle x y) (hC : C P f args' objs Q) : C P f args objs Q := by
  intro κ φ w vs h1 h2 h3 h4
  refine hC κ φ w vs h1 h2 (h3.trans hl) fun i y v hy hv => ?_
  have hi : i < args'.length := (List.getElem?_eq_some_iff.1 hy).1
  have hx : args[i]? = some args[i] := List.getElem?_eq_getElem (by omega)
  exact h i _ y hx hy κ φ _ _ v (h4 i _ v hx hv)
end Go.Am
namespace Go.Proofs.Ytljfolepmkcjlaa
open Go.RowKit Plain Am IntWalk
set_option maxRecDepth 100000
set_option linter.unusedVariables false
set_option linter.unusedSimpArgs false

abbrev lT : Nat := 22
def isE (g : Nat) : Ent := fun a o => match a, o with
  | [.d (.lst 0 [] true)], [] => some (.clo (.func g) [] [.ptr 0 0], [.box lT [.d (.lst 4 [] false)]], [])
  | [.d (.lst 4 els false)], [] => some (.clo (.func g) [] [.ptr 0 0], [.box lT [.d (.lst 4 els false)]], [])
  | _, _ => none
def is1E : Ent := fun a o => match a, o with
  | [.d l, .d (.int .i64 e), .ptr 0 0], [.box T [.d w]] => some (.d (.bool (decide (e = 0) && decide (unL l = unL w))), [.box T [.d w]], [Nat.beq T lT, isL l, isL w])
  | _, _ => none
def cnE : Ent := fun a o => match a, o with
  | [.d x, .d y], [] => some (.tup [.d (chL (concatC (unL x) (unL y)).1), .d (.int .i64 (concatC (unL x) (unL y)).2)], [], [isL x, isL y])
  | _, _ => none
noncomputable def tsm : List (Nat × Ent) := [(16, e2 smG)]
theorem tsm_ok : EntsOk Try.prog tsm := .cons sa_ent .nil
theorem is_c (els : List DV) : C Try.prog 25 [.d (.lst 4 els false)] [] (fun r o => r = .clo (.func 51) [] [.ptr 0 0] ∧ o = [.box lT [.d (.lst 4 els false)]]) := by
  have ok := cfT_ok (l := []) .nil
  refine C_of_run (fn := Try.f25) (body := bodyOf Try.f25) false (by kernel_rfl) (by kernel_rfl) (by kernel_rfl) ?_
  exact WK.fin ok 1000 0 [] [] [] rfl (by kernel_rfl : runEnd (cfT []) false _ 1000 0 _ _ (ini 4 [.d (.lst 4 els false)] []) = some (.clo (.func 51) [] [.ptr 0 0], [.box lT [.d (.lst 4 els false)]], _, _)) trivial trivial ⟨rfl, rfl⟩
theorem isE_ok {f g : Nat} (h : ∀ els : List DV, C Try.prog f [.d (.lst 4 els false)] [] (fun r o => r = .clo (.func g) [] [.ptr 0 0] ∧ o = [.box lT [.d (.lst 4 els false)]])) : EntOk Try.prog f (isE g) := by
  intro a o r o' c hg hc
  unfold isE at hg
  split at hg
  · simp only [Option.some.injEq, Prod.mk.injEq] at hg
    obtain ⟨rfl, rfl, rfl⟩ := hg
    refine C.args_le (args' := [.d (.lst 4 [] false)]) rfl (fun i x y hx hy => ?_) (h [])
    match i, hx, hy with
    | 0, hx, hy => simp at hx hy; subst hx hy; exact nil_leM
    | i + 1, hx, _ => simp at hx
  · rename_i els
    simp only [Option.some.injEq, Prod.mk.injEq] at hg
    obtain ⟨rfl, rfl, rfl⟩ := hg
    exact h els
  · cases hg
theorem is_ent : EntOk Try.prog 25 (isE 51) := isE_ok is_c
theorem is1_c (l w : List Chg) (hl : okL l) (hw : okL w) (e : Int) : C Try.prog 51 [.d (chL l), .d (.int .i64 e), .ptr 0 0] [.box lT [.d (chL w)]] (fun r o => r = .d (.bool (decide (e = 0) && decide (l = w))) ∧ o = [.box lT [.d (chL w)]]) := by
  have ok := cfT_ok tsm_ok
  refine C_of_run (fn := Try.f51) (body := bodyOf Try.f51) false (by kernel_rfl) (by kernel_rfl) (by kernel_rfl) ?_
  by_cases h : e = 0
  · exact WK.fin ok 1000 0 [(8, .d (.bool true))] [isL (chL l), isL (chL w)] [(.d (.bool (e == 0)), .d (.bool true))] rfl (by kernel_rfl : runEnd (cfT tsm) false _ 1000 0 _ _ (ini 13 [.d (chL l), .d (.int .i64 e), .ptr 0 0] [.box lT [.d (chL w)]]) = some (.d (.bool (decide (unL (chL l) = unL (chL w)))), [.box lT [.d (chL w)]], _, _)) ⟨isL_chL hl, isL_chL hw, trivial⟩ ⟨le_bool (by simpa using h), trivial⟩ ⟨by rw [unL_chL, unL_chL, decide_eq_true h]; rfl, rfl⟩
  · exact WK.fin ok 1000 0 [(8, .d (.bool false))] [] [(.d (.bool (e == 0)), .d (.bool false))] rfl (by kernel_rfl : runEnd (cfT tsm) false _ 1000 0 _ _ (ini 13 [.d (chL l), .d (.int .i64 e), .ptr 0 0] [.box lT [.d (chL w)]]) = some (.d (.bool false), [.box lT [.d (chL w)]], _, _)) trivial ⟨le_bool (by simpa using h), trivial⟩ ⟨by rw [decide_eq_false h]; rfl, rfl⟩
theorem is1E_ok {f : Nat} (h : ∀ (l w : List Chg), okL l → okL w → ∀ e : Int, C Try.prog f [.d (chL l), .d (.int .i64 e), .ptr 0 0] [.box lT [.d (chL w)]] (fun r o => r = .d (.bool (decide (e = 0) && decide (l = w))) ∧ o = [.box lT [.d (chL w)]])) : EntOk Try.prog f is1E := by
  intro a o r o' c hg hc
  unfold is1E at hg
  split at hg
  · rename_i l e T w
    simp only [Option.some.injEq, Prod.mk.injEq] at hg
    obtain ⟨rfl, rfl, rfl⟩ := hg
    have hT := nbE (hc (Nat.beq T lT) (by simp))
    subst hT
    obtain ⟨L, rfl, hL⟩ := isL_spec (hc (isL l) (by simp))
    obtain ⟨W, rfl, hW⟩ := isL_spec (hc (isL w) (by simp))
    rw [unL_chL, unL_chL]
    exact h L W hL hW e
  · cases hg
theorem is1_ent : EntOk Try.prog 51 is1E := is1E_ok is1_c
/-- Invert -/
def ivE : Ent := fun a o => match a, o with
  | [.d x], [] => some (.tup [.d (chL (invertC (unL x)).1), .d (.int .i64 (invertC (unL x)).2)], [], [isL x])
  | _, _ => none
theorem iv_ent : EntOk Try.prog 28 ivE := by
  intro a o r o' c hg hc
  unfold ivE at hg
  split at hg
  · rename_i x
    simp only [Option.some.injEq, Prod.mk.injEq] at hg
    obtain ⟨rfl, rfl, rfl⟩ := hg
    obtain ⟨A, rfl, hA⟩ := isL_spec (hc (isL x) (by simp))
    rw [unL_chL]
    exact Invert_c A hA
  · cases hg
theorem okL_inv {l : List Chg} (h : okL l) : okL (l.map invC) := ⟨by rw [List.length_map]; exact h.1, fun c hc => by
  obtain ⟨x, hx, rfl⟩ := List.mem_map.1 hc
  have := h.2 x hx
  exact ⟨⟨this.1.1, this.1.2.2, this.1.2.1⟩, this.2.1, this.2.2.2, this.2.2.1⟩⟩
theorem works22_ent : EntOk Try.prog 20 (e0 (some (.bool true, []))) := e0_ok fun y c h _ => by simp at h; obtain ⟨rfl, rfl⟩ := h; exact works22_c
theorem cn_ent {f : Nat} (h : ∀ a b : List Chg, okL a → okL b → C Try.prog f [.d (chL a), .d (chL b)] [] (fun r o => r = .tup [.d (chL (concatC a b).1), .d (.int .i64 (concatC a b).2)] ∧ o = [])) : EntOk Try.prog f cnE := by
  intro a o r o' c hg hc
  unfold cnE at hg
  split at hg
  · rename_i x y
    simp only [Option.some.injEq, Prod.mk.injEq] at hg
    obtain ⟨rfl, rfl, rfl⟩ := hg
    obtain ⟨A, rfl, hA⟩ := isL_spec (hc (isL x) (by simp))
    obtain ⟨B, rfl, hB⟩ := isL_spec (hc (isL y) (by simp))
    rw [unL_chL, unL_chL]
    exact h A B hA hB
  · cases hg
theorem ov_G2 {l : List Chg} {b : Bool} (h : great2 l = b) : RVle (.d (.bool (great2 (unL (chL l))))) (.d (.bool b)) := .of_eq (by rw [unL_chL, h])
end Go.Proofs.Ytljfolepmkcjlaa

/-
  Plain laws of a changeset's bytes: there and back. No program in sight.
-/
namespace Go.Proofs.Ytljfolepmkcjlaa.Plain

/-- a record with its length ahead -/
def pB (r : List Val) : Bs := putN (putRow r).1.length ++ (putRow r).1
/-- a table's name as a row -/
def tV (t : Bs) : List Val := [⟨2, 0, t⟩]
def chgB (c : Chg) : Bs := pB (tV c.t) ++ pB c.k ++ pB c.o ++ pB c.n
def putB (l : List Chg) : Bs := putN l.length ++ l.flatMap chgB
def putC (l : List Chg) : Bs × Int := if mayL l then (putB l, 0) else ([], 2)

theorem tV_ok {t : Bs} (h1 : 1 ≤ t.length) (h2 : t.length ≤ 32) : (putRow (tV t)).2 = 0 ∧ ∀ v ∈ tV t, v.wf := by
  have hc : chk (⟨2, 0, t⟩ : Val) = 0 := by
    unfold chk
    have e1 : ¬ (2 : Int) > 3 := by omega
    simp
    omega
  have hr : chkRow (tV t) = 0 := by
    unfold chkRow tV
    rw [if_neg (by simp)]
    exact chkAll_zero.2 (by simpa using hc)
  have hl : (allL (tV t)).length ≤ 4000 := by
    have a1 := tagsL_length_le (tV t)
    have a2 := bodiesL_length_le (tV t) (by simpa [tV] using hc)
    have : (allL (tV t)).length = 1 + ((tagsL (tV t)).length + (bodiesL (tV t)).length) := by simp [allL]; omega
    have e : (tV t).length = 1 := rfl
    rw [e] at a1 a2
    omega
  refine ⟨?_, ?_⟩
  · unfold putRow
    rw [hr, if_neg (by simp), if_neg (by omega)]
  · intro v hv
    rw [List.mem_singleton.1 hv]
    refine ⟨?_, ?_, ?_, ?_⟩
    · show (0 : Int) ≤ 2; omega
    · show (2 : Int) ≤ 255; omega
    · show (-9223372036854775808 : Int) ≤ 0; omega
    · show (0 : Int) ≤ 9223372036854775807; omega
theorem putRow_len {r : List Val} (h : (putRow r).2 = 0) : (putRow r).1.length ≤ 4000 := by
  have := putRow_ok h
  rw [this.2.2]; exact this.2.1
theorem partN_put {r : List Val} (h : (putRow r).2 = 0) (hw : ∀ v ∈ r, v.wf) (s : Bs) : partN (pB r ++ s) = some (r, s) := by
  have hl := putRow_len h
  have ht := takeN_putN (putRow r).1.length (by omega) ((putRow r).1 ++ s)
  unfold partN pB
  rw [List.append_assoc, ht]
  simp only [ne_eq, not_true_eq_false, if_false]
  rw [List.drop_left' rfl]
  rw [if_neg (by simp), List.take_left' rfl, List.drop_left' rfl, takeRow_put h hw]
theorem chgN_put {c : Chg} (h : mayC c = true) (hw : c.wf) (s : Bs) : chgN (chgB c ++ s) = some (c, s) := by
  obtain ⟨h1, h2, h3, h4, h5, h6, h7⟩ := mayC_parts.1 h
  simp only [rowB, decide_eq_true_eq] at h5 h6 h7
  obtain ⟨t1, t2⟩ := tV_ok h1 h2
  unfold chgN chgB
  rw [List.append_assoc, List.append_assoc, List.append_assoc, partN_put t1 t2]
  simp only
  rw [partN_put h5 hw.1]
  simp only
  rw [partN_put h6 hw.2.1]
  simp only
  rw [partN_put h7 hw.2.2]
  simp [tV]
theorem chgsN_put : ∀ {l : List Chg}, (∀ c ∈ l, mayC c = true ∧ c.wf) → ∀ s : Bs, chgsN l.length (l.flatMap chgB ++ s) = some (l, s)
  | [], _, s => rfl
  | c :: r, h, s => by
    have hc := h c (by simp)
    rw [List.flatMap_cons, List.append_assoc, List.length_cons]
    have ih := chgsN_put (l := r) (fun d hd => h d (by simp [hd])) s
    have h1 := chgN_put hc.1 hc.2 (r.flatMap chgB ++ s)
    simp only [chgsN]
    rw [h1]
    simp only
    rw [ih]; rfl
theorem take_put {l : List Chg} (h : Set' l) : takeC (putB l) = some l := by
  have hl := h.len
  have ht := takeN_putN l.length (by omega) (l.flatMap chgB)
  have hg := chgsN_put (l := l) (fun c hc => ⟨(h.all.1 c hc).1, h.wf c hc⟩) []
  rw [List.append_nil] at hg
  unfold takeC putB
  rw [ht]
  simp only
  rw [if_neg (by omega), List.drop_left' rfl, hg]
  simp only
  exact if_pos ⟨trivial, h.may⟩

theorem partN_spec {s : Bs} {r : List Val} {q : Bs} (h : partN s = some (r, q)) : s = pB r ++ q ∧ (putRow r).2 = 0 ∧ ∀ v ∈ r, v.wf := by
  unfold partN at h
  split at h
  · cases h
  · rename_i h0
    have h0' : (takeN s).2.2 = 0 := by simpa using h0
    obtain ⟨_, _, _, k4, k5⟩ := takeN_ok s h0'
    split at h
    · cases h
    · rename_i h1
      split at h
      · cases h
      · rename_i l hl
        injection h with h; injection h with e1 e2; subst e1; subst e2
        obtain ⟨p1, p2⟩ := takeRow_spec hl
        refine ⟨?_, by rw [p1], p2⟩
        unfold pB
        rw [p1]
        simp only
        have hlen : ((s.drop (takeN s).2.1).take (takeN s).1).length = (takeN s).1 := by rw [List.length_take]; omega
        rw [hlen, ← k5, List.append_assoc, List.take_append_drop, List.take_append_drop]
theorem chgN_spec {s : Bs} {c : Chg} {q : Bs} (h : chgN s = some (c, q)) : s = chgB c ++ q := by
  unfold chgN at h
  split at h
  · cases h
  · rename_i t s1 h1
    split at h
    · cases h
    · rename_i k s2 h2
      split at h
      · cases h
      · rename_i o s3 h3
        split at h
        · cases h
        · rename_i n s4 h4
          split at h
          · rename_i v
            split at h
            · rename_i hv
              injection h with h; injection h with e1 e2; subst e1; subst e2
              obtain ⟨a1, a2, a3⟩ := partN_spec h1
              obtain ⟨b1, _, _⟩ := partN_spec h2
              obtain ⟨c1, _, _⟩ := partN_spec h3
              obtain ⟨d1, _, _⟩ := partN_spec h4
              have hc := (chkRow_zero (putRow_ok a2).1).2 v (by simp)
              obtain ⟨_, z2, _, _⟩ := chk_zero hc
              have hn : v.n = 0 := by rcases z2 with z | z; omega; exact z
              have hvv : [v] = tV v.s := by
                obtain ⟨vk, vn, vs⟩ := v
                simp only at hv hn
                subst hv hn; rfl
              rw [hvv] at a1
              unfold chgB
              simp only
              rw [a1, b1, c1, d1]
              simp only [List.append_assoc]
            · cases h
          · cases h
theorem chgsN_spec : ∀ {m : Nat} {s : Bs} {l : List Chg} {q : Bs}, chgsN m s = some (l, q) → l.length = m ∧ s = l.flatMap chgB ++ q
  | 0, s, l, q, h => by simp only [chgsN, Option.some.injEq, Prod.mk.injEq] at h; obtain ⟨rfl, rfl⟩ := h; exact ⟨rfl, rfl⟩
  | m + 1, s, l, q, h => by
    simp only [chgsN] at h
    split at h
    · cases h
    · rename_i x r1 hx
      cases hq : chgsN m r1 with
      | none => rw [hq] at h; cases h
      | some p =>
        rw [hq] at h
        simp only [Option.map_some, Option.some.injEq, Prod.mk.injEq] at h
        obtain ⟨rfl, rfl⟩ := h
        obtain ⟨i1, i2⟩ := chgsN_spec (l := p.1) (q := p.2) hq
        refine ⟨by simp [i1], ?_⟩
        rw [chgN_spec hx, List.flatMap_cons, List.append_assoc, ← i2]
theorem put_take {s : Bs} {l : List Chg} (h : takeC s = some l) : putC l = (s, 0) := by
  by_cases hn : (takeN s).2.2 ≠ 0 ∨ (takeN s).1 > 1000
  · rw [takeC_bad hn] at h; cases h
  · cases hq : chgsN (takeN s).1 (s.drop (takeN s).2.1) with
    | none => rw [takeC_none hn hq] at h; cases h
    | some p =>
      rw [takeC_some hn (l := p.1) (r := p.2) hq] at h
      split at h
      · rename_i hh
        injection h with h
        subst h
        obtain ⟨i1, i2⟩ := chgsN_spec (l := p.1) (q := p.2) hq
        have h0 : (takeN s).2.2 = 0 := Classical.byContradiction fun hne => hn (.inl hne)
        obtain ⟨_, _, _, _, k5⟩ := takeN_ok s h0
        unfold putC
        rw [if_pos hh.2]
        congr 1
        unfold putB
        rw [i1, ← k5]
        rw [hh.1, List.append_nil] at i2
        rw [← i2, List.take_append_drop]
      · cases h
/-- how long the bytes are -/
theorem chgB_len {c : Chg} (h : mayC c = true) : (chgB c).length ≤ 16036 := by
  obtain ⟨h1, h2, h3, h4, h5, h6, h7⟩ := mayC_parts.1 h
  simp only [rowB, decide_eq_true_eq] at h5 h6 h7
  have a0 := putRow_len (tV_ok h1 h2).1
  have a1 := putRow_len h5
  have a2 := putRow_len h6
  have a3 := putRow_len h7
  have b := fun n => putN_length_le n
  unfold chgB pB
  simp only [List.length_append]
  have b0 := b (putRow (tV c.t)).1.length
  have b1 := b (putRow c.k).1.length
  have b2 := b (putRow c.o).1.length
  have b3 := b (putRow c.n).1.length
  omega
end Go.Proofs.Ytljfolepmkcjlaa.Plain

/-
  change.Put, run.
-/
namespace Go.Proofs.Ytljfolepmkcjlaa
open Go.RowKit Plain Am IntWalk
set_option maxRecDepth 100000
set_option linter.unusedVariables false
set_option linter.unusedSimpArgs false

noncomputable abbrev ptC : Code := bodyOf Try.f27
def npG : DV → Option (DV × List Bool)
  | .int .u64 v => some (.str (putN v.toNat), [decide (0 ≤ v), decide (v.toNat ≤ 1000000000)])
  | _ => none
noncomputable def tp6 : List (Nat × Ent) := [(17, e1 ckG), (54, e1 npG), (55, e1 (gRow putD fun _ => true)), (53, wsE), (56, strE)]
abbrev vT : Nat := 49
def psS (b : List DV) (l : List DV) (i : Int) : ESt := { n := 57, m := 0, regs := T.mk [(5, .ptr 200 0), (22, .d (.lst 4 l false)), (23, .d (.int .i64 (l.length : Int))), (24, .d (.int .i64 i))], objs := T.mk [(200, .box blT [.ptr 200 0, .own 201 1]), (201, .arr u8T 1 b)] }
def psR (b : List DV) (l : List DV) (i : Int) (x : Chg) (j : Int) : ESt := { n := 57, m := 0, regs := T.mk [(5, .ptr 200 0), (22, .d (.lst 4 l false)), (23, .d (.int .i64 (l.length : Int))), (24, .d (.int .i64 i)), (38, .agg [.own 201 3, .d (rD x.k), .d (rD x.o), .d (rD x.n)]), (39, .d (.int .i64 j))], objs := T.mk [(200, .box blT [.ptr 200 0, .own 202 1]), (201, .arr vT 3 ((tV x.t).map vD)), (202, .arr u8T 1 b)] }
def psQ (b : List DV) (l : List DV) (i : Int) (x : Chg) (j : Int) : ESt := { n := 57, m := 0, regs := T.mk [(5, .ptr 200 0), (22, .d (.lst 4 l false)), (23, .d (.int .i64 (l.length : Int))), (24, .d (.int .i64 i)), (38, .agg [.own 201 3, .d (rD x.k), .d (rD x.o), .d (rD x.n)]), (39, .d (.int .i64 j))], objs := T.mk [(200, .box blT [.ptr 200 0, .own 202 1]), (201, .frz 3 ((tV x.t).map vD)), (202, .arr u8T 1 b)] }
theorem np_ent : EntOk Try.prog 54 (e1 npG) := by
  refine e1_ok fun x y c hg hc => ?_
  unfold npG at hg
  split at hg
  · rename_i v
    simp only [Option.some.injEq, Prod.mk.injEq] at hg
    obtain ⟨rfl, rfl⟩ := hg
    have h0 := of_decide_eq_true (hc (decide (0 ≤ v)) (by simp))
    have h1 := of_decide_eq_true (hc (decide (v.toNat ≤ 1000000000)) (by simp))
    obtain ⟨n, rfl⟩ : ∃ n : Nat, v = n := ⟨v.toNat, by omega⟩
    rw [Int.toNat_natCast] at h1 ⊢
    exact C_flat (args := [.int .u64 n]) (us := [.int .u64 n]) rfl rfl fun w => put_any n w (by omega)
  · cases hg
theorem tp6_ok : EntsOk Try.prog tp6 := .cons ck_ent (.cons np_ent (.cons put_ent (.cons ws_ent (.cons str_ent .nil))))
abbrev EndsPt (s : Bs) : SSt → Prop := Ends (Try.f27.results.toList) (.tup [.d (.str s), .d (.int .i64 0)])
theorem ov_put1 {r : List Val} {z : Bs} (h : (putRow r).1 = z) : RVle (.d (.str (putRow (toRow (List.map vD r))).1)) (.d (.str z)) := .of_eq (by rw [toRow_map, h])
theorem ov_put2 {r : List Val} (h : (putRow r).2 = 0) : RVle (.d (.int .i64 (putRow (toRow (List.map vD r))).2)) (.d (.int .i64 0)) := .of_eq (by rw [toRow_map, h])
theorem ov_u64 {k n : Nat} (h : k = n) (hn : n ≤ 1000000) : RVle (.d (.int .u64 (IntKind.u64.wrap (Nat.cast (R := Int) k)))) (.d (.int .u64 (Nat.cast (R := Int) n))) := .of_eq (by rw [h, IntKind.wrap_u64]; congr 2; omega)
theorem pB_u8s (r : List Val) {z : Bs} {n : Nat} (h : (putRow r).1 = z) (hn : z.length = n) (b : List DV) : b ++ u8s (pB r) = b ++ u8s (putN n ++ z) := by unfold pB; rw [h, hn]
set_option maxHeartbeats 2000000 in
theorem ps_0 (ls b : List DV) (i : Nat) (x : Chg) (T : Bs) (hb : b.length ≤ 500000000) (hp : (putRow (tV x.t)).2 = 0) (hk : WK Try.prog 0 (stackAt ptC 1) (psQ (b ++ u8s (pB (tV x.t))) ls (i : Int) x 1).den (EndsPt T)) : WK Try.prog 0 (stackAt ptC 1) (psR b ls (i : Int) x 0).den (EndsPt T) := by
  have ok := cfT_ok tp6_ok
  obtain ⟨z, hz⟩ : ∃ z, (putRow (tV x.t)).1 = z := ⟨_, rfl⟩
  have hzl := putRow_len hp
  obtain ⟨n, hn⟩ : ∃ n, z.length = n := ⟨_, rfl⟩
  rw [hz, hn] at hzl
  rw [pB_u8s _ hz hn] at hk
  have v1 := ov_put1 hz
  have v2 := ov_put2 hp
  have v3 := ov_u64 hn (by omega)
  have pl := putN_length_le n
  have c1 : decide ((putN n).length + z.length ≤ 2 ^ 62) = true := decide_eq_true (by omega)
  have c2 : decide (b.length + (putN n ++ z).length ≤ 1000000000) = true := decide_eq_true (by rw [List.length_append]; omega)
  have c3 : decide (Int.toNat (Nat.cast (R := Int) n) ≤ 1000000000) = true := decide_eq_true (by rw [Int.toNat_natCast]; omega)
  refine WK.segA ok 1000 0 [(45, RV.d (DV.str z)), (46, RV.d (DV.int Go.IntKind.i64 (0))), (49, RV.d (DV.int Go.IntKind.u64 (Nat.cast (R := Int) n))), (50, RV.d (DV.str (Plain.putN n)))] [] [5, 22, 23, 24, 38, 39] [true, true, true, true, decide ((Nat.cast (R := Int) n).toNat ≤ 1000000000), decide (List.length (Plain.putN n) + List.length z ≤ 2 ^ 62), true, true, decide (b.length + (Plain.putN n ++ z).length ≤ 1000000000)] [(RV.d (DV.str (Plain.putRow (toRow (List.map vD (Plain.tV x.t)))).1), RV.d (DV.str z)), (RV.d (DV.int Go.IntKind.i64 (Plain.putRow (toRow (List.map vD (Plain.tV x.t)))).2), RV.d (DV.int Go.IntKind.i64 (0))), (RV.d (DV.int Go.IntKind.u64 (Go.IntKind.u64.wrap (Nat.cast (R := Int) (List.length z)))), RV.d (DV.int Go.IntKind.u64 (Nat.cast (R := Int) n))), (RV.d (DV.str (Plain.putN (Nat.cast (R := Int) n).toNat)), RV.d (DV.str (Plain.putN n)))] rfl (by kernel_rfl : runSegA (cfT tp6) 1000 0 _ _ _ _ (psR b ls (i : Int) x 0) = some (stackAt ptC 1, psQ (b ++ u8s (putN n ++ z)) ls (i : Int) x 1, _, _)) (by refine ⟨?_, ?_, ?_, ?_, ?_, ?_, ?_, ?_, ?_, trivial⟩ <;> (first | rfl | exact c1 | exact c2 | exact c3)) (by refine ⟨?_, ?_, ?_, ?_, trivial⟩ <;> (first | exact v1 | exact v2 | exact v3 | exact .of_eq rfl)) ?_
  exact hk
set_option maxHeartbeats 2000000 in
theorem ps_1 (ls b : List DV) (i : Nat) (x : Chg) (T : Bs) (hb : b.length ≤ 500000000) (hp : (putRow x.k).2 = 0) (hl : x.k.length ≤ 65536) (hw : ∀ v ∈ x.k, v.wf) (hk : WK Try.prog 0 (stackAt ptC 1) (psQ (b ++ u8s (pB x.k)) ls (i : Int) x 2).den (EndsPt T)) : WK Try.prog 0 (stackAt ptC 1) (psQ b ls (i : Int) x 1).den (EndsPt T) := by
  have ok := cfT_ok tp6_ok
  obtain ⟨z, hz⟩ : ∃ z, (putRow x.k).1 = z := ⟨_, rfl⟩
  have hzl := putRow_len hp
  obtain ⟨n, hn⟩ : ∃ n, z.length = n := ⟨_, rfl⟩
  rw [hz, hn] at hzl
  rw [pB_u8s _ hz hn] at hk
  have v1 := ov_put1 hz
  have v2 := ov_put2 hp
  have v3 := ov_u64 hn (by omega)
  have pl := putN_length_le n
  have c0 : okRow (x.k.map vD) = true := okRow_map hl hw
  have c1 : decide ((putN n).length + z.length ≤ 2 ^ 62) = true := decide_eq_true (by omega)
  have c2 : decide (b.length + (putN n ++ z).length ≤ 1000000000) = true := decide_eq_true (by rw [List.length_append]; omega)
  have c3 : decide (Int.toNat (Nat.cast (R := Int) n) ≤ 1000000000) = true := decide_eq_true (by rw [Int.toNat_natCast]; omega)
  refine WK.segA ok 1000 0 [(45, RV.d (DV.str z)), (46, RV.d (DV.int Go.IntKind.i64 (0))), (49, RV.d (DV.int Go.IntKind.u64 (Nat.cast (R := Int) n))), (50, RV.d (DV.str (Plain.putN n)))] [] [5, 22, 23, 24, 38, 39] [true, decide ((List.map vD x.k).length ≤ 65536) && (List.map vD x.2).all isVal, true, true, decide ((Nat.cast (R := Int) n).toNat ≤ 1000000000), decide (List.length (Plain.putN n) + List.length z ≤ 2 ^ 62), true, true, decide (b.length + (Plain.putN n ++ z).length ≤ 1000000000)] [(RV.d (DV.str (Plain.putRow (toRow (List.map vD x.k))).1), RV.d (DV.str z)), (RV.d (DV.int Go.IntKind.i64 (Plain.putRow (toRow (List.map vD x.k))).2), RV.d (DV.int Go.IntKind.i64 (0))), (RV.d (DV.int Go.IntKind.u64 (Go.IntKind.u64.wrap (Nat.cast (R := Int) (List.length z)))), RV.d (DV.int Go.IntKind.u64 (Nat.cast (R := Int) n))), (RV.d (DV.str (Plain.putN (Nat.cast (R := Int) n).toNat)), RV.d (DV.str (Plain.putN n)))] rfl (by kernel_rfl : runSegA (cfT tp6) 1000 0 _ _ _ _ (psQ b ls (i : Int) x 1) = some (stackAt ptC 1, psQ (b ++ u8s (putN n ++ z)) ls (i : Int) x 2, _, _)) (by refine ⟨?_, ?_, ?_, ?_, ?_, ?_, ?_, ?_, ?_, trivial⟩ <;> (first | rfl | exact c0 | exact c1 | exact c2 | exact c3)) (by refine ⟨?_, ?_, ?_, ?_, trivial⟩ <;> (first | exact v1 | exact v2 | exact v3 | exact .of_eq rfl)) ?_
  exact hk
set_option maxHeartbeats 2000000 in
theorem ps_2 (ls b : List DV) (i : Nat) (x : Chg) (T : Bs) (hb : b.length ≤ 500000000) (hp : (putRow x.o).2 = 0) (hl : x.o.length ≤ 65536) (hw : ∀ v ∈ x.o, v.wf) (hk : WK Try.prog 0 (stackAt ptC 1) (psQ (b ++ u8s (pB x.o)) ls (i : Int) x 3).den (EndsPt T)) : WK Try.prog 0 (stackAt ptC 1) (psQ b ls (i : Int) x 2).den (EndsPt T) := by
  have ok := cfT_ok tp6_ok
  obtain ⟨z, hz⟩ : ∃ z, (putRow x.o).1 = z := ⟨_, rfl⟩
  have hzl := putRow_len hp
  obtain ⟨n, hn⟩ : ∃ n, z.length = n := ⟨_, rfl⟩
  rw [hz, hn] at hzl
  rw [pB_u8s _ hz hn] at hk
  have v1 := ov_put1 hz
  have v2 := ov_put2 hp
  have v3 := ov_u64 hn (by omega)
  have pl := putN_length_le n
  have c0 : okRow (x.o.map vD) = true := okRow_map hl hw
  have c1 : decide ((putN n).length + z.length ≤ 2 ^ 62) = true := decide_eq_true (by omega)
  have c2 : decide (b.length + (putN n ++ z).length ≤ 1000000000) = true := decide_eq_true (by rw [List.length_append]; omega)
  have c3 : decide (Int.toNat (Nat.cast (R := Int) n) ≤ 1000000000) = true := decide_eq_true (by rw [Int.toNat_natCast]; omega)
  refine WK.segA ok 1000 0 [(45, RV.d (DV.str z)), (46, RV.d (DV.int Go.IntKind.i64 (0))), (49, RV.d (DV.int Go.IntKind.u64 (Nat.cast (R := Int) n))), (50, RV.d (DV.str (Plain.putN n)))] [] [5, 22, 23, 24, 38, 39] [true, decide ((List.map vD x.o).length ≤ 65536) && (List.map vD x.3).all isVal, true, true, decide ((Nat.cast (R := Int) n).toNat ≤ 1000000000), decide (List.length (Plain.putN n) + List.length z ≤ 2 ^ 62), true, true, decide (b.length + (Plain.putN n ++ z).length ≤ 1000000000)] [(RV.d (DV.str (Plain.putRow (toRow (List.map vD x.o))).1), RV.d (DV.str z)), (RV.d (DV.int Go.IntKind.i64 (Plain.putRow (toRow (List.map vD x.o))).2), RV.d (DV.int Go.IntKind.i64 (0))), (RV.d (DV.int Go.IntKind.u64 (Go.IntKind.u64.wrap (Nat.cast (R := Int) (List.length z)))), RV.d (DV.int Go.IntKind.u64 (Nat.cast (R := Int) n))), (RV.d (DV.str (Plain.putN (Nat.cast (R := Int) n).toNat)), RV.d (DV.str (Plain.putN n)))] rfl (by kernel_rfl : runSegA (cfT tp6) 1000 0 _ _ _ _ (psQ b ls (i : Int) x 2) = some (stackAt ptC 1, psQ (b ++ u8s (putN n ++ z)) ls (i : Int) x 3, _, _)) (by refine ⟨?_, ?_, ?_, ?_, ?_, ?_, ?_, ?_, ?_, trivial⟩ <;> (first | rfl | exact c0 | exact c1 | exact c2 | exact c3)) (by refine ⟨?_, ?_, ?_, ?_, trivial⟩ <;> (first | exact v1 | exact v2 | exact v3 | exact .of_eq rfl)) ?_
  exact hk
set_option maxHeartbeats 2000000 in
theorem ps_3 (ls b : List DV) (i : Nat) (x : Chg) (T : Bs) (hb : b.length ≤ 500000000) (hp : (putRow x.n).2 = 0) (hl : x.n.length ≤ 65536) (hw : ∀ v ∈ x.n, v.wf) (hk : WK Try.prog 0 (stackAt ptC 1) (psQ (b ++ u8s (pB x.n)) ls (i : Int) x 4).den (EndsPt T)) : WK Try.prog 0 (stackAt ptC 1) (psQ b ls (i : Int) x 3).den (EndsPt T) := by
  have ok := cfT_ok tp6_ok
  obtain ⟨z, hz⟩ : ∃ z, (putRow x.n).1 = z := ⟨_, rfl⟩
  have hzl := putRow_len hp
  obtain ⟨n, hn⟩ : ∃ n, z.length = n := ⟨_, rfl⟩
  rw [hz, hn] at hzl
  rw [pB_u8s _ hz hn] at hk
  have v1 := ov_put1 hz
  have v2 := ov_put2 hp
  have v3 := ov_u64 hn (by omega)
  have pl := putN_length_le n
  have c0 : okRow (x.n.map vD) = true := okRow_map hl hw
  have c1 : decide ((putN n).length + z.length ≤ 2 ^ 62) = true := decide_eq_true (by omega)
  have c2 : decide (b.length + (putN n ++ z).length ≤ 1000000000) = true := decide_eq_true (by rw [List.length_append]; omega)
  have c3 : decide (Int.toNat (Nat.cast (R := Int) n) ≤ 1000000000) = true := decide_eq_true (by rw [Int.toNat_natCast]; omega)
  refine WK.segA ok 1000 0 [(45, RV.d (DV.str z)), (46, RV.d (DV.int Go.IntKind.i64 (0))), (49, RV.d (DV.int Go.IntKind.u64 (Nat.cast (R := Int) n))), (50, RV.d (DV.str (Plain.putN n)))] [] [5, 22, 23, 24, 38, 39] [true, decide ((List.map vD x.n).length ≤ 65536) && (List.map vD x.4).all isVal, true, true, decide ((Nat.cast (R := Int) n).toNat ≤ 1000000000), decide (List.length (Plain.putN n) + List.length z ≤ 2 ^ 62), true, true, decide (b.length + (Plain.putN n ++ z).length ≤ 1000000000)] [(RV.d (DV.str (Plain.putRow (toRow (List.map vD x.n))).1), RV.d (DV.str z)), (RV.d (DV.int Go.IntKind.i64 (Plain.putRow (toRow (List.map vD x.n))).2), RV.d (DV.int Go.IntKind.i64 (0))), (RV.d (DV.int Go.IntKind.u64 (Go.IntKind.u64.wrap (Nat.cast (R := Int) (List.length z)))), RV.d (DV.int Go.IntKind.u64 (Nat.cast (R := Int) n))), (RV.d (DV.str (Plain.putN (Nat.cast (R := Int) n).toNat)), RV.d (DV.str (Plain.putN n)))] rfl (by kernel_rfl : runSegA (cfT tp6) 1000 0 _ _ _ _ (psQ b ls (i : Int) x 3) = some (stackAt ptC 1, psQ (b ++ u8s (putN n ++ z)) ls (i : Int) x 4, _, _)) (by refine ⟨?_, ?_, ?_, ?_, ?_, ?_, ?_, ?_, ?_, trivial⟩ <;> (first | rfl | exact c0 | exact c1 | exact c2 | exact c3)) (by refine ⟨?_, ?_, ?_, ?_, trivial⟩ <;> (first | exact v1 | exact v2 | exact v3 | exact .of_eq rfl)) ?_
  exact hk
theorem mayC_puts {c : Chg} (h : mayC c = true) : (putRow (tV c.t)).2 = 0 ∧ (putRow c.k).2 = 0 ∧ (putRow c.o).2 = 0 ∧ (putRow c.n).2 = 0 := by
  obtain ⟨h1, h2, h3, h4, h5, h6, h7⟩ := mayC_parts.1 h
  simp only [rowB, decide_eq_true_eq] at h5 h6 h7
  exact ⟨(tV_ok h1 h2).1, h5, h6, h7⟩
set_option maxHeartbeats 2000000 in
theorem ps_round (ls b : List DV) (i : Nat) (hi : i ≤ 1000) (x : Chg) (T : Bs) (hb : b.length ≤ 100000000) (hx : Chg.ok x) (hm : mayC x = true) (hk : WK Try.prog 0 (stackAt ptC 0) (psS (b ++ u8s (chgB x)) ls ((i + 1 : Nat) : Int)).den (EndsPt T)) : WK Try.prog 0 (stackAt ptC 1) (psR b ls (i : Int) x 0).den (EndsPt T) := by
  have ok := cfT_ok tp6_ok
  obtain ⟨p0, p1, p2, p3⟩ := mayC_puts hm
  have e : b ++ u8s (chgB x) = b ++ u8s (pB (tV x.t)) ++ u8s (pB x.k) ++ u8s (pB x.o) ++ u8s (pB x.n) := by
    unfold chgB; simp only [u8s_app, List.append_assoc]
  have hle : ∀ {r : List Val}, (putRow r).2 = 0 → (u8s (pB r)).length ≤ 4009 := fun {r} h => by
    have := putRow_len h
    have := putN_length_le (putRow r).1.length
    rw [u8s_len]; unfold pB; rw [List.length_append]; omega
  have l0 := hle p0
  have l1 := hle p1
  have l2 := hle p2
  have l3 := hle p3
  rw [e] at hk
  refine ps_0 ls b i x T (by omega) p0 ?_
  refine ps_1 ls _ i x T (by rw [List.length_append]; omega) p1 (by have := hx.2.1; omega) hx.1.1 ?_
  refine ps_2 ls _ i x T (by simp only [List.length_append]; omega) p2 (by have := hx.2.2.1; omega) hx.1.2.1 ?_
  refine ps_3 ls _ i x T (by simp only [List.length_append]; omega) p3 (by have := hx.2.2.2; omega) hx.1.2.2 ?_
  clear e l0 l1 l2 l3 p0 p1 p2 p3 hle
  generalize b ++ u8s (pB (tV x.t)) ++ u8s (pB x.k) ++ u8s (pB x.o) ++ u8s (pB x.n) = q at hk ⊢
  refine WK.segA ok 1000 0 [(55, RV.d (DV.int Go.IntKind.i64 (Nat.cast (R := Int) (i + 1))))] [] [5, 22, 23, 24] [] [(RV.d (DV.int Go.IntKind.i64 (Go.IntKind.i64.wrap ((Nat.cast (R := Int) i) + 1))), RV.d (DV.int Go.IntKind.i64 (Nat.cast (R := Int) (i + 1))))] rfl (by kernel_rfl : runSegA (cfT tp6) 1000 0 _ _ _ _ (psQ q ls (i : Int) x 4) = some (stackAt ptC 0, psS q ls ((i + 1 : Nat) : Int), _, _)) trivial ⟨(by exact ov_succ (by omega)), trivial⟩ ?_
  exact hk
set_option maxHeartbeats 2000000 in
theorem put_c2 (l : List Chg) (hl : okL l) : C Try.prog 27 [.d (chL l)] [] (fun r o => r = .tup [.d (.str (putC l).1), .d (.int .i64 (putC l).2)] ∧ o = []) := by
  have ok := cfT_ok tp6_ok
  refine C_of_run (fn := Try.f27) (body := ptC) true (by kernel_rfl) (by kernel_rfl) (by kernel_rfl) ?_
  have kl := isL_chL hl
  unfold putC
  cases hm : mayL l with
  | false =>
    rw [if_neg (by simp)]
    have q1 : RVle (.d (.int .i64 (if mayL (unL (chL l)) = true then (0 : Int) else 2))) (.d (.int .i64 2)) := .of_eq (by rw [unL_chL, hm]; rfl)
    exact WK.fin ok 1000 0 [(15, RV.d (DV.bool true)), (4, RV.d (DV.int Go.IntKind.i64 (2)))] [isL (DV.lst 4 (List.map chD l) false)] [(RV.d (DV.int Go.IntKind.i64 (if Plain.mayL (unL (chL l)) = true then (0 : Int) else 2)), RV.d (DV.int Go.IntKind.i64 (2))), (RV.d (DV.bool true), RV.d (DV.bool true))] rfl (by kernel_rfl : runEnd (cfT tp6) true _ 1000 0 _ _ (ini 57 [.d (chL l)] []) = some (RV.tup [RV.d (DV.str []), RV.d (DV.int Go.IntKind.i64 (2))], [], _, _)) ⟨(by exact kl), trivial⟩ (by refine ⟨?_, ?_, trivial⟩ <;> (first | exact q1 | exact le_bool rfl)) ⟨rfl, rfl⟩
  | true =>
    rw [if_pos rfl]
    obtain ⟨ma, la⟩ := mayL_all hm
    have q1 : RVle (.d (.bool ((if mayL (unL (chL l)) = true then (0 : Int) else 2) != 0))) (.d (.bool false)) := le_bool (by rw [unL_chL, hm]; rfl)
    have hloop : WK Try.prog 0 (stackAt ptC 0) (psS (u8s (putN l.length)) (l.map chD) 0).den (EndsPt (putB l)) := by
      have key := WK.rec' (P := Try.prog) (m := 0) (k := stackAt ptC 0) (Q := EndsPt (putB l)) (fun (i : Nat) => psS (u8s (putN l.length ++ (l.take i).flatMap chgB)) (l.map chD) (i : Int)) (fun i => i ≤ l.length) (fun i => l.length - i) ?_ 0 (Nat.zero_le _)
      · simpa using key
      intro i hi ih
      obtain ⟨s, hs⟩ : ∃ s, putN l.length ++ (l.take i).flatMap chgB = s := ⟨_, rfl⟩
      have hsl : 1 ≤ s.length ∧ s.length ≤ 20000000 := by
        have h1 := putN_length_le l.length
        have h0 : 1 ≤ (putN l.length).length := putN_length_pos l.length
        have h2 : ∀ (q : List Chg), (∀ c ∈ q, mayC c = true) → (q.flatMap chgB).length ≤ 16036 * q.length := by
          intro q
          induction q with
          | nil => intro _; simp
          | cons c r ih2 =>
            intro hq
            rw [List.flatMap_cons, List.length_append, List.length_cons]
            have a1 := ih2 (fun d hd => hq d (by simp [hd]))
            have a2 := chgB_len (hq c (by simp))
            omega
        have h3 := h2 (l.take i) (fun c hc => ma c (List.mem_of_mem_take hc))
        have h4 : (l.take i).length ≤ 1000 := by rw [List.length_take]; omega
        rw [← hs, List.length_append]; omega
      have hul := u8s_len s
      by_cases hlt : i < l.length
      · obtain ⟨x, hx⟩ : ∃ x, l[i] = x := ⟨_, rfl⟩
        have hxm : x ∈ l := by rw [← hx]; exact List.getElem_mem _
        have tx : l.take (i + 1) = l.take i ++ [x] := by rw [List.take_add_one, List.getElem?_eq_getElem hlt, hx]; rfl
        have hnx := ih (i + 1) hlt (by omega)
        have e1 : u8s (putN l.length ++ (l.take (i + 1)).flatMap chgB) = u8s s ++ u8s (chgB x) := by
          rw [tx, List.flatMap_append, ← List.append_assoc, hs, u8s_app]; simp
        rw [e1] at hnx
        rw [hs]
        have b1 := bd_map (f := chD) hlt
        have b2 := ov_chg hlt hx
        have b3 : decide ((Nat.cast (R := Int) i) < (Nat.cast (R := Int) (l.map chD).length)) = true := decide_eq_true (by rw [List.length_map]; omega)
        have hr := ps_round (l.map chD) (u8s s) i (by omega) x (putB l) (by omega) (hl.2 x hxm) (ma x hxm) hnx
        obtain ⟨b, hb⟩ : ∃ b, u8s s = b := ⟨_, rfl⟩
        obtain ⟨ls, hls⟩ : ∃ ls, l.map chD = ls := ⟨_, rfl⟩
        rw [hb, hls] at hr ⊢
        rw [hls] at b1 b2 b3
        clear ih hnx e1
        refine WK.segA ok 1000 0 [(25, RV.d (DV.bool true)), (26, RV.iptr (DV.agg [DV.str x.1, DV.lst 3 (List.map vD x.2) false, DV.lst 3 (List.map vD x.3) false, DV.lst 3 (List.map vD x.4) false]) 0)] [] [5, 22, 23, 24, 38, 39] [decide (0 ≤ (Nat.cast (R := Int) i) ∧ (Nat.cast (R := Int) i) < (Nat.cast (R := Int) ls.length))] [(RV.d (DV.bool (decide ((Nat.cast (R := Int) i) < (Nat.cast (R := Int) ls.length)))), RV.d (DV.bool true)), (RV.iptr (ls.getD (Nat.cast (R := Int) i).toNat DV.nilp) 0, RV.iptr (DV.agg [DV.str x.1, DV.lst 3 (List.map vD x.2) false, DV.lst 3 (List.map vD x.3) false, DV.lst 3 (List.map vD x.4) false]) 0)] rfl (by kernel_rfl : runSegA (cfT tp6) 1000 0 _ _ _ _ (psS b ls (i : Int)) = some (stackAt ptC 1, psR b ls (i : Int) x 0, _, _)) ⟨(by exact b1), trivial⟩ (by refine ⟨?_, ?_, trivial⟩ <;> (first | exact le_bool b3 | exact b2)) ?_
        exact hr
      · have e : s = putB l := by rw [← hs, List.take_of_length_le (by omega)]; rfl
        rw [hs, ← e]
        have b3 : decide ((Nat.cast (R := Int) i) < (Nat.cast (R := Int) (l.map chD).length)) = false := decide_eq_false (by rw [List.length_map]; omega)
        have d1 := u8s_isB s
        have d2 : (!(u8s s).isEmpty) = true := u8s_ne hsl.1
        have d3 : decide ((u8s s).length ≤ 1099511627776) = true := decide_eq_true (by omega)
        have d4 : RVle (.d (.str ((u8s s).map DV.byte))) (.d (.str s)) := .of_eq (by rw [u8s_byte])
        obtain ⟨b, hb⟩ : ∃ b, u8s s = b := ⟨_, rfl⟩
        obtain ⟨ls, hls⟩ : ∃ ls, l.map chD = ls := ⟨_, rfl⟩
        rw [hb] at d1 d2 d3 d4 ⊢
        rw [hls] at b3 ⊢
        clear ih
        exact WK.fin ok 1000 0 [(25, RV.d (DV.bool false)), (56, RV.d (DV.str s))] [b.all isB, !b.isEmpty, decide (b.length ≤ 1099511627776)] [(RV.d (DV.bool (decide ((Nat.cast (R := Int) i) < (Nat.cast (R := Int) ls.length)))), RV.d (DV.bool false)), (RV.d (DV.str (List.map DV.byte b)), RV.d (DV.str s))] rfl (by kernel_rfl : runEnd (cfT tp6) true _ 1000 0 _ _ (psS b ls (i : Int)) = some (RV.tup [RV.d (DV.str s), RV.d (DV.int Go.IntKind.i64 (0))], [], _, _)) (by refine ⟨?_, ?_, ?_, trivial⟩ <;> (first | exact d1 | exact d2 | exact d3)) (by refine ⟨?_, ?_, trivial⟩ <;> (first | exact le_bool b3 | exact d4)) ⟨rfl, rfl⟩
    obtain ⟨n, hn⟩ : ∃ n, l.length = n := ⟨_, rfl⟩
    have pl := putN_length_le n
    have v3 : RVle (.d (.int .u64 (IntKind.u64.wrap (Nat.cast (R := Int) (l.map chD).length)))) (.d (.int .u64 (Nat.cast (R := Int) n))) := ov_u64 (by rw [List.length_map, hn]) (by omega)
    have c2 : decide ((putN n).length ≤ 1000000000) = true := decide_eq_true (by omega)
    have c3 : decide (Int.toNat (Nat.cast (R := Int) n) ≤ 1000000000) = true := decide_eq_true (by rw [Int.toNat_natCast]; omega)
    rw [hn] at hloop
    obtain ⟨T, hT⟩ : ∃ T, putB l = T := ⟨_, rfl⟩
    rw [hT] at hloop ⊢
    refine WK.segA ok 1000 0 [(15, RV.d (DV.bool false)), (19, RV.d (DV.int Go.IntKind.u64 (Nat.cast (R := Int) n))), (20, RV.d (DV.str (Plain.putN n)))] [] [5, 22, 23, 24] [isL (DV.lst 4 (List.map chD l) false), true, decide ((Nat.cast (R := Int) n).toNat ≤ 1000000000), true, decide (List.length (Plain.putN n) ≤ 1000000000)] [(RV.d (DV.bool ((if Plain.mayL (unL (chL l)) = true then (0 : Int) else 2) != 0)), RV.d (DV.bool false)), (RV.d (DV.int Go.IntKind.u64 (Go.IntKind.u64.wrap (Nat.cast (R := Int) (List.map chD l).length))), RV.d (DV.int Go.IntKind.u64 (Nat.cast (R := Int) n))), (RV.d (DV.str (Plain.putN (Nat.cast (R := Int) n).toNat)), RV.d (DV.str (Plain.putN n)))] rfl (by kernel_rfl : runSegA (cfT tp6) 1000 0 _ _ _ _ (ini 57 [.d (chL l)] []) = some (stackAt ptC 0, psS (u8s (putN n)) (l.map chD) 0, _, _)) (by refine ⟨?_, ?_, ?_, ?_, ?_, trivial⟩ <;> (first | rfl | exact kl | exact c2 | exact c3)) (by refine ⟨?_, ?_, ?_, trivial⟩ <;> (first | exact q1 | exact v3 | exact .of_eq rfl)) ?_
    exact hloop
def ptE : Ent := fun a o => match a, o with
  | [.d x], [] => some (.tup [.d (.str (putC (unL x)).1), .d (.int .i64 (putC (unL x)).2)], [], [isL x])
  | _, _ => none
theorem pt_ent : EntOk Try.prog 27 ptE := by
  intro a o r o' c hg hc
  unfold ptE at hg
  split at hg
  · rename_i x
    simp only [Option.some.injEq, Prod.mk.injEq] at hg
    obtain ⟨rfl, rfl, rfl⟩ := hg
    obtain ⟨A, rfl, hA⟩ := isL_spec (hc (isL x) (by simp))
    rw [unL_chL]
    exact put_c2 A hA
  · cases hg
end Go.Proofs.Ytljfolepmkcjlaa
