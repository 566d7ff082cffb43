/-
  The law RebaseUpon, run.
-/
import Derived.Test.YtljfolepmkcjlaaC8
namespace Go.Proofs.Ytljfolepmkcjlaa
open Go.RowKit Plain Am IntWalk
set_option maxRecDepth 100000
set_option linter.unusedVariables false
set_option linter.unusedSimpArgs false

def isRw : DV → Bool
  | .lst sz els full => els.all isVal && decide (sz = 3) && !full
  | _ => false
def isCw : DV → Bool
  | .agg [.str _, a, b, c] => isRw a && isRw b && isRw c
  | _ => false
def isLw : DV → Bool
  | .lst sz els full => decide (els.length ≤ 9223372036854775807) && els.all isCw && decide (sz = 4) && !full
  | _ => false
def grG (x : DV) : Option (DV × List Bool) := some (.bool (greatL (unL x)), [isLw x])
noncomputable abbrev lwC : Code := bodyOf Try.f3
noncomputable def te : List (Nat × Ent) := [(10, e0 (some (.bool true, []))), (11, e1 grG), (12, upE), (13, ruE), (14, msE), (15, rmE), (16, e2 smG)]
theorem isRw_spec {x : DV} (h : isRw x = true) : ∃ l, x = rD l ∧ ∀ v ∈ l, v.wf := by
  unfold isRw at h
  split at h
  · rename_i sz els full
    simp only [Bool.and_eq_true, decide_eq_true_eq, Bool.not_eq_true', List.all_eq_true] at h
    obtain ⟨⟨h1, rfl⟩, rfl⟩ := h
    obtain ⟨g1, g2⟩ := map_toRow h1
    exact ⟨toRow els, by rw [rD, ← g1], g2⟩
  · cases h
theorem isCw_spec {x : DV} (h : isCw x = true) : ∃ c, x = chD c ∧ c.wf := by
  unfold isCw at h
  split at h
  · rename_i t a b c
    simp only [Bool.and_eq_true] at h
    obtain ⟨⟨h1, h2⟩, h3⟩ := h
    obtain ⟨k, rfl, w1⟩ := isRw_spec h1
    obtain ⟨o, rfl, w2⟩ := isRw_spec h2
    obtain ⟨n, rfl, w3⟩ := isRw_spec h3
    exact ⟨⟨t, k, o, n⟩, rfl, w1, w2, w3⟩
  · cases h
theorem isLw_spec {x : DV} (h : isLw x = true) : ∃ l, x = chL l ∧ l.length ≤ 9223372036854775807 ∧ ∀ c ∈ l, c.wf := by
  unfold isLw at h
  split at h
  · rename_i sz els full
    simp only [Bool.and_eq_true, decide_eq_true_eq, Bool.not_eq_true', List.all_eq_true] at h
    obtain ⟨⟨⟨h1, h2⟩, rfl⟩, rfl⟩ := h
    have : ∃ l : List Chg, els = l.map chD ∧ ∀ c ∈ l, c.wf := by
      clear h1
      induction els with
      | nil => exact ⟨[], rfl, by simp⟩
      | cons x r ih =>
        obtain ⟨l, rfl, hl⟩ := ih (fun y hy => h2 y (by simp [hy]))
        obtain ⟨c, rfl, hc⟩ := isCw_spec (h2 x (by simp))
        exact ⟨c :: l, rfl, fun d hd => by
          rcases List.mem_cons.1 hd with rfl | hd
          · exact hc
          · exact hl d hd⟩
    obtain ⟨l, rfl, hl⟩ := this
    exact ⟨l, rfl, by simpa using h1, hl⟩
  · cases h
theorem isRw_rD {l : List Val} (hw : ∀ v ∈ l, v.wf) : isRw (rD l) = true := by
  simp only [isRw, Bool.and_eq_true, List.all_eq_true, List.mem_map]
  refine ⟨⟨?_, rfl⟩, rfl⟩
  rintro x ⟨v, hv, rfl⟩
  exact (wfB_iff v).2 (hw v hv)
theorem isLw_chL {l : List Chg} (hl : l.length ≤ 9223372036854775807) (hw : ∀ c ∈ l, c.wf) : isLw (chL l) = true := by
  simp only [isLw, chL, List.length_map, Bool.and_eq_true, decide_eq_true_eq, List.all_eq_true, List.mem_map]
  refine ⟨⟨⟨hl, ?_⟩, trivial⟩, rfl⟩
  rintro x ⟨c, hc, rfl⟩
  obtain ⟨w1, w2, w3⟩ := hw c hc
  simp only [chD, isCw, isRw_rD w1, isRw_rD w2, isRw_rD w3]; rfl
theorem gr_ent : EntOk Try.prog 11 (e1 grG) := by
  refine e1_ok fun x y c hg hc => ?_
  simp only [grG, Option.some.injEq, Prod.mk.injEq] at hg
  obtain ⟨rfl, rfl⟩ := hg
  obtain ⟨l, rfl, hl, hw⟩ := isLw_spec (hc (isLw x) (by simp))
  rw [unL_chL]
  exact gr_c l hl
theorem works_c : C Try.prog 10 [] [] (fun r o => r = .d (.bool true) ∧ o = []) :=
  of_isTrue (lay_ok tb tb_ok brf 6000 1200 12) (by kernel_rfl : isTrue (layer Try.prog (konOf tb) brf cok 6000 1200 12 10 [] []) = true)
theorem te_ok : EntsOk Try.prog te := .cons (e0_ok fun y c h _ => by simp at h; obtain ⟨rfl, rfl⟩ := h; exact works_c) (.cons gr_ent (.cons up_ent (.cons ru_ent (.cons ms_ent (.cons rm_ent (.cons sa_ent .nil))))))

theorem ov_G {l : List Chg} {b : Bool} (h : greatL l = b) : RVle (.d (.bool (greatL (unL (chL l))))) (.d (.bool b)) := .of_eq (by rw [unL_chL, h])
theorem okL_sub {l : List Chg} {g : Chg → Option Chg} (hl : l.length ≤ 65536) (h : ∀ x ∈ l, ∀ z, g x = some z → Chg.ok z) : okL (l.filterMap g) := by
  refine ⟨Nat.le_trans (List.length_filterMap_le ..) hl, fun c hc => ?_⟩
  obtain ⟨x, hx, hz⟩ := List.mem_filterMap.1 hc
  exact h x hx c hz
theorem okL_nil : okL [] := ⟨by decide, by simp⟩
theorem atC_mem {x y : Chg} {l : List Chg} (h : atC x l = some y) : y ∈ l := List.mem_of_find?_eq_some h
theorem okL_up {ours th : List Chg} {win : Bool} (ho : okL ours) (ht : okL th) : okL (meetQ (upF win) ours th).1 := by
  unfold meetQ
  split
  · refine okL_sub ho.1 fun x hx z hz => ?_
    have hxo := ho.2 x hx
    cases ha : atC x th with
    | none => rw [ha] at hz; simp only [upF, Option.some.injEq] at hz; rw [← hz]; exact hxo
    | some y =>
      have hyo := ht.2 y (atC_mem ha)
      rw [ha] at hz
      simp only [upF] at hz
      split at hz
      · injection hz with hz
        rw [← hz]
        exact ⟨⟨hxo.1.1, hyo.1.2.2, hxo.1.2.2⟩, hxo.2.1, hyo.2.2.2, hxo.2.2.2⟩
      · cases hz
  · exact okL_nil
theorem okL_me {ours th : List Chg} (ho : okL ours) : okL (meetQ meF ours th).1 := by
  unfold meetQ
  split
  · refine okL_sub ho.1 fun x hx z hz => ?_
    have hxo := ho.2 x hx
    cases ha : atC x th with
    | none => rw [ha] at hz; cases hz
    | some y =>
      rw [ha] at hz
      simp only [meF] at hz
      split at hz
      · injection hz with hz; rw [← hz]; exact hxo
      · cases hz
  · exact okL_nil

set_option maxHeartbeats 4000000 in
theorem upon_c (ours th : List Chg) (win : Bool) (lo : ours.length ≤ 9223372036854775807) (lt : th.length ≤ 9223372036854775807) (wo : ∀ c ∈ ours, c.wf) (wt : ∀ c ∈ th, c.wf) : C Try.prog 3 [.d (chL ours), .d (chL th), .d (.bool win)] [] (fun r o => r = .d (.bool true) ∧ o = []) := by
  have ok := cfT_ok te_ok
  refine C_of_run (fn := Try.f3) (body := lwC) true (by kernel_rfl) (by kernel_rfl) (by kernel_rfl) ?_
  cases g1 : greatL ours with
  | true =>
    exact WK.fin ok 1000 0 [(18, RV.d (DV.bool true)), (22, RV.d (DV.bool true))] [isLw (DV.lst 4 (List.map chD ours) false)] [(RV.d (DV.bool (greatL (unL (chL ours)))), RV.d (DV.bool true)), (RV.d (DV.bool true), RV.d (DV.bool true))] rfl (by kernel_rfl : runEnd (cfT te) true _ 1000 0 _ _ (ini 67 [.d (chL ours), .d (chL th), .d (.bool win)] []) = some (RV.d (DV.bool true), [], _, _)) ⟨(by exact isLw_chL lo wo), trivial⟩ (by refine ⟨?_, ?_, trivial⟩ <;> (first | exact ov_G g1 | exact le_bool rfl)) ⟨rfl, rfl⟩
  | false =>
    cases g2 : greatL th with
    | true =>
      exact WK.fin ok 1000 0 [(18, RV.d (DV.bool false)), (21, RV.d (DV.bool true)), (22, RV.d (DV.bool true))] [isLw (DV.lst 4 (List.map chD ours) false), isLw (DV.lst 4 (List.map chD th) false)] [(RV.d (DV.bool (greatL (unL (chL ours)))), RV.d (DV.bool false)), (RV.d (DV.bool (greatL (unL (chL th)))), RV.d (DV.bool true)), (RV.d (DV.bool true), RV.d (DV.bool true))] rfl (by kernel_rfl : runEnd (cfT te) true _ 1000 0 _ _ (ini 67 [.d (chL ours), .d (chL th), .d (.bool win)] []) = some (RV.d (DV.bool true), [], _, _)) (by refine ⟨?_, ?_, trivial⟩ <;> (first | exact isLw_chL lo wo | exact isLw_chL lt wt)) (by refine ⟨?_, ?_, ?_, trivial⟩ <;> (first | exact ov_G g1 | exact ov_G g2 | exact le_bool rfl)) ⟨rfl, rfl⟩
    | false =>
      have ho := great_no g1 wo
      have ht := great_no g2 wt
      have eU := meet_eq (upF win) ours th wo wt
      have eM := meet_eq meF ours th wo wt
      have kU := okL_up (win := win) ho ht
      have kM := okL_me (th := th) ho
      exact WK.fin ok 1000 0 [(18, RV.d (DV.bool false)), (21, RV.d (DV.bool false)), (22, RV.d (DV.bool false)), (51, RV.d (DV.bool true)), (55, RV.d (DV.bool true)), (60, RV.d (DV.bool true)), (65, RV.d (DV.bool true))] [isLw (DV.lst 4 (List.map chD ours) false), isLw (DV.lst 4 (List.map chD th) false), isL (DV.lst 4 (List.map chD ours) false), isL (DV.lst 4 (List.map chD th) false), isL (DV.lst 4 (List.map chD ours) false), isL (DV.lst 4 (List.map chD th) false), isL (DV.lst 4 (List.map chD ours) false), isL (DV.lst 4 (List.map chD th) false), isL (DV.lst 4 (List.map chD ours) false), isL (DV.lst 4 (List.map chD th) false), isL (DV.lst 4 (List.map chD (Plain.meetR (Plain.upF win) (unL (chL ours)) (unL (chL th))).1) false), isL (DV.lst 4 (List.map chD (Plain.meetQ (Plain.upF win) (unL (chL ours)) (unL (chL th))).1) false), isL (DV.lst 4 (List.map chD (Plain.meetR Plain.meF (unL (chL ours)) (unL (chL th))).1) false), isL (DV.lst 4 (List.map chD (Plain.meetQ Plain.meF (unL (chL ours)) (unL (chL th))).1) false)] [(RV.d (DV.bool (greatL (unL (chL ours)))), RV.d (DV.bool false)), (RV.d (DV.bool (greatL (unL (chL th)))), RV.d (DV.bool false)), (RV.d (DV.bool false), RV.d (DV.bool false)), (RV.d (DV.bool ((Plain.meetR (Plain.upF win) (unL (chL ours)) (unL (chL th))).2 == (Plain.meetQ (Plain.upF win) (unL (chL ours)) (unL (chL th))).2)), RV.d (DV.bool true)), (RV.d (DV.bool (decide (unL (chL (Plain.meetR (Plain.upF win) (unL (chL ours)) (unL (chL th))).fst) = unL (chL (Plain.meetQ (Plain.upF win) (unL (chL ours)) (unL (chL th))).fst)))), RV.d (DV.bool true)), (RV.d (DV.bool ((Plain.meetR Plain.meF (unL (chL ours)) (unL (chL th))).2 == (Plain.meetQ Plain.meF (unL (chL ours)) (unL (chL th))).2)), RV.d (DV.bool true)), (RV.d (DV.bool (decide (unL (chL (Plain.meetR Plain.meF (unL (chL ours)) (unL (chL th))).fst) = unL (chL (Plain.meetQ Plain.meF (unL (chL ours)) (unL (chL th))).fst)))), RV.d (DV.bool true))] rfl (by kernel_rfl : runEnd (cfT te) true _ 1000 0 _ _ (ini 67 [.d (chL ours), .d (chL th), .d (.bool win)] []) = some (RV.d (DV.bool true), [], _, _)) (by refine ⟨?_, ?_, ?_, ?_, ?_, ?_, ?_, ?_, ?_, ?_, ?_, ?_, ?_, ?_, trivial⟩ <;> (first | exact isLw_chL lo wo | exact isLw_chL lt wt | exact isL_chL ho | exact isL_chL ht | (show isL (chL (meetR (upF win) (unL (chL ours)) (unL (chL th))).1) = true; rw [unL_chL, unL_chL, eU]; exact isL_chL kU) | (show isL (chL (meetQ (upF win) (unL (chL ours)) (unL (chL th))).1) = true; rw [unL_chL, unL_chL]; exact isL_chL kU) | (show isL (chL (meetR meF (unL (chL ours)) (unL (chL th))).1) = true; rw [unL_chL, unL_chL, eM]; exact isL_chL kM) | (show isL (chL (meetQ meF (unL (chL ours)) (unL (chL th))).1) = true; rw [unL_chL, unL_chL]; exact isL_chL kM))) (by refine ⟨?_, ?_, ?_, ?_, ?_, ?_, ?_, trivial⟩ <;> (first | exact ov_G g1 | exact ov_G g2 | exact le_bool rfl | (refine le_bool ?_; simp only [unL_chL]; rw [eU]; simp; done) | (refine le_bool ?_; simp only [unL_chL]; rw [eM]; simp; done))) ⟨rfl, rfl⟩
end Go.Proofs.Ytljfolepmkcjlaa
