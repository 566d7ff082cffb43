/-
  The record laws, run.
-/
import Derived.Test.YtpigindbfkhgdaaAmG
namespace Go.Proofs.Ytpigindbfkhgdaa
open Go.RowKit Plain Am IntWalk
set_option maxRecDepth 100000
set_option linter.unusedVariables false

def greatG : DV → Option (DV × List Bool)
  | .lst sz els _ => some (.bool (greatV (toRow els)), [els.all isVal, decide (sz = 3)])
  | _ => none
theorem great_ent : EntOk Try.prog 9 (e1 greatG) := by
  refine e1_ok fun x y cs hg hc => ?_
  unfold greatG at hg
  split at hg
  · rename_i sz els full
    simp only [Option.some.injEq, Prod.mk.injEq] at hg
    obtain ⟨rfl, rfl⟩ := hg
    have h0 := hc _ (by simp : els.all isVal ∈ [els.all isVal, decide (sz = 3)])
    have h1 := hc _ (by simp : decide (sz = 3) ∈ [els.all isVal, decide (sz = 3)])
    have := great_c (toRow els) sz full (by simpa using h1)
    rw [← (map_toRow (by simpa using h0)).1] at this
    exact this
  · cases hg
noncomputable def tab1 : List (Nat × Ent) := (8, e0 (some (.bool true, []))) :: (9, e1 greatG) :: tab0
theorem tab1_ok : EntsOk Try.prog tab1 := .cons (e0_ok fun y c h _ => by simp at h; obtain ⟨rfl, rfl⟩ := h; exact works_c) (.cons great_ent tab0_ok)
noncomputable abbrev cf1 : Cfg := cfT tab1

theorem all_isVal {l : List Val} (hw : ∀ v ∈ l, v.wf) : (l.map vD).all isVal = true := by
  simp only [List.all_eq_true, List.mem_map]
  rintro x ⟨v, hv, rfl⟩
  exact (wfB_iff v).2 (hw v hv)
theorem great_small {l : List Val} (h : greatV l = false) : l.length ≤ 60 := by
  simp [greatV] at h; exact h.1

theorem size_all {l : List Val} (h : chkRow l = 0) : (sizeRow l : Int) = (allL l).length := by rw [sizeRow_good h]

theorem puts_c (l : List Val) (full : Bool) (hw : ∀ v ∈ l, v.wf) : C Try.prog 3 [.d (.lst 3 (l.map vD) full)] [] (fun r o => r = .d (.bool true) ∧ o = []) := by
  have ok := cfT_ok tab1_ok
  refine C_of_run (fn := Try.f3) (body := (Try.f3.body).getD .skip) true (by kernel_rfl) (by kernel_rfl) (by kernel_rfl) ?_
  have hv := all_isVal hw
  by_cases hg : greatV l = true
  · refine WK.fin ok 1000 0 [(11, .d (.bool true))] [(l.map vD).all isVal, true] [(.d (.bool (greatV (toRow (l.map vD)))), .d (.bool true))] rfl
      (by kernel_rfl : runEnd cf1 true _ 1000 0 _ _ (ini 42 [.d (.lst 3 (l.map vD) full)] []) = some (.d (.bool true), [], _, _)) ⟨hv, rfl, trivial⟩ ⟨le_bool (by rw [toRow_map, hg]), trivial⟩ ⟨rfl, rfl⟩
  · have hgf : greatV l = false := by simpa using hg
    have hk := okRow_map (by have := great_small hgf; omega) hw
    by_cases hc : chkRow l = 0
    · obtain ⟨g1, g2⟩ := chkRow_zero hc
      refine WK.fin ok 1000 0 [(11, .d (.bool false)), (24, .d (.bool true)), (30, .d (.bool true)), (34, .d (.bool true)), (40, .d (.bool true))]
        [(l.map vD).all isVal, true, okRow (l.map vD), true, okRow (l.map vD), true, okRow (l.map vD), true, okRow (l.map vD), decide ((toRow (l.map vD)).length ≤ 16) && (toRow (l.map vD)).all fun v => Plain.chk v == 0, okRow (l.map vD), true]
        [(.d (.bool (greatV (toRow (l.map vD)))), .d (.bool false)), (.d (.bool (chkRow (toRow (l.map vD)) == 0)), .d (.bool true)),
         (.d (.bool ((putRow (toRow (l.map vD))).1 == (putRow (toRow (l.map vD))).1)), .d (.bool true)), (.d (.bool ((putRow (toRow (l.map vD))).2 == (putRow (toRow (l.map vD))).2)), .d (.bool true)),
         (.d (.bool (((sizeRow (toRow (l.map vD)) : Nat) : Int) == ((allL (toRow (l.map vD))).length : Int))), .d (.bool true))] rfl
        (by kernel_rfl : runEnd cf1 true _ 1000 0 _ _ (ini 42 [.d (.lst 3 (l.map vD) full)] []) = some (.d (.bool true), [], _, _))
        ⟨hv, rfl, hk, rfl, hk, rfl, hk, rfl, hk, ?_, hk, rfl, trivial⟩ ⟨le_bool (by rw [toRow_map, hgf]), le_bool (by rw [toRow_map, hc]; rfl), le_bool (by simp), le_bool (by simp), le_bool (by rw [toRow_map, size_all hc]; simp), trivial⟩ ⟨rfl, rfl⟩
      rw [toRow_map]; simp; exact ⟨g1, g2⟩
    · refine WK.fin ok 1000 0 [(11, .d (.bool false)), (24, .d (.bool false)), (30, .d (.bool true)), (34, .d (.bool true)), (40, .d (.bool true))]
        [(l.map vD).all isVal, true, okRow (l.map vD), true, okRow (l.map vD), true, okRow (l.map vD), true, okRow (l.map vD), true]
        [(.d (.bool (greatV (toRow (l.map vD)))), .d (.bool false)), (.d (.bool (chkRow (toRow (l.map vD)) == 0)), .d (.bool false)),
         (.d (.bool ((putRow (toRow (l.map vD))).1 == (putRow (toRow (l.map vD))).1)), .d (.bool true)), (.d (.bool ((putRow (toRow (l.map vD))).2 == (putRow (toRow (l.map vD))).2)), .d (.bool true)),
         (.d (.bool (((sizeRow (toRow (l.map vD)) : Nat) : Int) == 0)), .d (.bool true))] rfl
        (by kernel_rfl : runEnd cf1 true _ 1000 0 _ _ (ini 42 [.d (.lst 3 (l.map vD) full)] []) = some (.d (.bool true), [], _, _))
        ⟨hv, rfl, hk, rfl, hk, rfl, hk, rfl, hk, rfl, trivial⟩ ⟨le_bool (by rw [toRow_map, hgf]), le_bool (by rw [toRow_map]; simpa using hc), le_bool (by simp), le_bool (by simp), le_bool (by rw [toRow_map, sizeRow_bad hc]; rfl), trivial⟩ ⟨rfl, rfl⟩
end Go.Proofs.Ytpigindbfkhgdaa
