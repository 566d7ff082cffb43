/-
  RecordSizes, run.
-/
import Derived.Test.YtpigindbfkhgdaaAmL
namespace Go.Proofs.Ytpigindbfkhgdaa
open Go.RowKit Plain Am IntWalk
set_option maxRecDepth 100000
noncomputable abbrev szB : Code := (Try.f5.body).getD .skip

theorem toRow_one (l : List Val) (v : Val) : toRow ([] ++ l.map vD ++ [vD v]) = l ++ [v] := by
  have := toRow_map (l ++ [v])
  simpa using this
theorem toRow_v (v : Val) : toRow [vD v] = [v] := rfl

theorem allL_grow (l : List Val) (v : Val) : (allL l).length < (allL (l ++ [v])).length := by
  have h : 0 < (putN (tagN v)).length := by rw [putN_length]; split <;> omega
  simp only [allL, tagsL, bodiesL, List.length_cons, List.length_append, List.flatMap_append, List.flatMap_cons, List.flatMap_nil]
  simp only [List.length_nil]
  omega

theorem sizes_c (l : List Val) (v : Val) (full : Bool) (hw : ∀ u ∈ l, u.wf) (hv : v.wf) : C Try.prog 5 [.d (.lst 3 (l.map vD) full), .d (vD v)] [] (fun r o => r = .d (.bool true) ∧ o = []) := by
  have ok := cfT_ok tab1_ok
  refine C_of_run (fn := Try.f5) (body := szB) true (by kernel_rfl) (by kernel_rfl) (by kernel_rfl) ?_
  have ha := all_isVal hw
  have hb : [vD v].all isVal = true := by simp [isVal, vD]; exact (wfB_iff v).2 hv
  by_cases hg : greatV l = true
  · exact WK.fin ok 1000 0 [(12, .d (.bool true))] [(l.map vD).all isVal, true] [(.d (.bool (greatV (toRow (l.map vD)))), .d (.bool true))] rfl
      (by kernel_rfl : runEnd cf1 true _ 1000 0 _ _ (ini 63 [.d (.lst 3 (l.map vD) full), .d (vD v)] []) = some (.d (.bool true), [], _, _)) ⟨ha, rfl, trivial⟩ ⟨le_bool (by rw [toRow_map, hg]), trivial⟩ ⟨rfl, rfl⟩
  · have hgf : greatV l = false := by simpa using hg
    by_cases hg2 : greatV [v] = true
    · exact WK.fin ok 1000 0 [(12, .d (.bool false)), (16, .d (.bool true))] [(l.map vD).all isVal, true, [vD v].all isVal, true] [(.d (.bool (greatV (toRow (l.map vD)))), .d (.bool false)), (.d (.bool (greatV (toRow [vD v]))), .d (.bool true))] rfl
        (by kernel_rfl : runEnd cf1 true _ 1000 0 _ _ (ini 63 [.d (.lst 3 (l.map vD) full), .d (vD v)] []) = some (.d (.bool true), [], _, _)) ⟨ha, rfl, hb, rfl, trivial⟩ ⟨le_bool (by rw [toRow_map, hgf]), le_bool (by rw [toRow_v, hg2]), trivial⟩ ⟨rfl, rfl⟩
    · have hgf2 : greatV [v] = false := by simpa using hg2
      have hlen := great_small hgf
      have hk := okRow_map (by omega) hw
      have hk2 : okRow ([] ++ l.map vD ++ [vD v]) = true := by
        have := okRow_map (l := l ++ [v]) (by simp; omega) (fun u hu => by
          rcases List.mem_append.1 hu with hu | hu
          · exact hw u hu
          · simp at hu; subst hu; exact hv)
        simpa using this
      have r1 : decide ((([] : List DV).length + (l.map vD).length) * 32 ≤ 2 ^ 38) = true := by simp; omega
      have r2 : decide ((([] ++ l.map vD : List DV).length + [vD v].length) * 32 ≤ 2 ^ 38) = true := by simp; omega
      have e12 := le_bool (show greatV (toRow (l.map vD)) = false by rw [toRow_map, hgf])
      have e16 := le_bool (show greatV (toRow [vD v]) = false by rw [toRow_v, hgf2])
      have e53f : 0 < sizeRow l → RVle (.d (.bool (((sizeRow (toRow (l.map vD)) : Nat) : Int) == 0))) (.d (.bool false)) := fun h => le_bool (by rw [toRow_map]; simp; omega)
      have grow : 0 < sizeRow l → sizeRow (l ++ [v]) ≠ 0 → sizeRow l < sizeRow (l ++ [v]) := by
        intro h1 h2
        have c1 : chkRow l = 0 := by
          rcases Classical.em (chkRow l = 0) with h | h
          · exact h
          · rw [sizeRow_bad h] at h1; omega
        have c2 : chkRow (l ++ [v]) = 0 := by
          rcases Classical.em (chkRow (l ++ [v]) = 0) with h | h
          · exact h
          · rw [sizeRow_bad h] at h2; omega
        rw [sizeRow_good c1, sizeRow_good c2]
        exact allL_grow l v
      by_cases hc : chkRow l = 0
      · have hpos : 0 < sizeRow l := by rw [sizeRow_good hc]; simp [allL]
        have hn : sizeRow l = (allL l).length := sizeRow_good hc
        by_cases hlong : 4000 < (allL l).length
        · have hp := putRow_long hc hlong
          have e26 := le_bool (show ((putRow (toRow (l.map vD))).2 == 0) = false by rw [toRow_map, hp]; rfl)
          have e35 := le_bool (show ((putRow (toRow (l.map vD))).2 == 3) = true by rw [toRow_map, hp]; rfl)
          have e38 := le_bool (show (((sizeRow (toRow (l.map vD)) : Nat) : Int) != 0) = true by rw [toRow_map]; simp; omega)
          have e42 := le_bool (show decide (((sizeRow (toRow (l.map vD)) : Nat) : Int) ≤ 4000) = false by rw [toRow_map]; simp; omega)
          by_cases hm : sizeRow (l ++ [v]) = 0
          · have e56 := le_bool (show (((sizeRow (toRow ([] ++ l.map vD ++ [vD v])) : Nat) : Int) == 0) = true by rw [toRow_one, hm]; rfl)
            exact WK.fin ok 1000 0 [(12, .d (.bool false)), (16, .d (.bool false)), (26, .d (.bool false)), (35, .d (.bool true)), (38, .d (.bool true)), (42, .d (.bool false)), (53, .d (.bool false)), (56, .d (.bool true))]
              [(l.map vD).all isVal, true, [vD v].all isVal, true, okRow (l.map vD), true, okRow (l.map vD), true, decide ((([] : List DV).length + (l.map vD).length) * 32 ≤ 2 ^ 38), decide ((([] ++ l.map vD : List DV).length + [vD v].length) * 32 ≤ 2 ^ 38), okRow ([] ++ l.map vD ++ [vD v]), true]
              _ rfl (by kernel_rfl : runEnd cf1 true _ 1000 0 _ _ (ini 63 [.d (.lst 3 (l.map vD) full), .d (vD v)] []) = some (.d (.bool true), [], _, [(_, _), (_, _), (_, _), (_, _), (_, _), (_, _), (_, _), (_, _)]))
              ⟨ha, rfl, hb, rfl, hk, rfl, hk, rfl, r1, r2, hk2, rfl, trivial⟩ ⟨e12, e16, e26, e35, e38, e42, e53f hpos, e56, trivial⟩ ⟨rfl, rfl⟩
          · have e56 := le_bool (show (((sizeRow (toRow ([] ++ l.map vD ++ [vD v])) : Nat) : Int) == 0) = false by rw [toRow_one]; simp; omega)
            have e61 := le_bool (show decide (((sizeRow (toRow (l.map vD)) : Nat) : Int) < ((sizeRow (toRow ([] ++ l.map vD ++ [vD v])) : Nat) : Int)) = true by have := grow hpos hm; rw [toRow_map, toRow_one]; simp; omega)
            exact WK.fin ok 1000 0 [(12, .d (.bool false)), (16, .d (.bool false)), (26, .d (.bool false)), (35, .d (.bool true)), (38, .d (.bool true)), (42, .d (.bool false)), (53, .d (.bool false)), (56, .d (.bool false)), (61, .d (.bool true))]
              [(l.map vD).all isVal, true, [vD v].all isVal, true, okRow (l.map vD), true, okRow (l.map vD), true, decide ((([] : List DV).length + (l.map vD).length) * 32 ≤ 2 ^ 38), decide ((([] ++ l.map vD : List DV).length + [vD v].length) * 32 ≤ 2 ^ 38), okRow ([] ++ l.map vD ++ [vD v]), true]
              _ rfl (by kernel_rfl : runEnd cf1 true _ 1000 0 _ _ (ini 63 [.d (.lst 3 (l.map vD) full), .d (vD v)] []) = some (.d (.bool true), [], _, [(_, _), (_, _), (_, _), (_, _), (_, _), (_, _), (_, _), (_, _), (_, _)]))
              ⟨ha, rfl, hb, rfl, hk, rfl, hk, rfl, r1, r2, hk2, rfl, trivial⟩ ⟨e12, e16, e26, e35, e38, e42, e53f hpos, e56, e61, trivial⟩ ⟨rfl, rfl⟩
        · have hp := putRow_good hc hlong
          have e26 := le_bool (show ((putRow (toRow (l.map vD))).2 == 0) = true by rw [toRow_map, hp]; rfl)
          have e31 := le_bool (show ((((putRow (toRow (l.map vD))).1.length : Nat) : Int) != ((sizeRow (toRow (l.map vD)) : Nat) : Int)) = false by rw [toRow_map, hp, hn]; simp)
          have e35 := le_bool (show ((putRow (toRow (l.map vD))).2 == 3) = false by rw [toRow_map, hp]; rfl)
          by_cases hm : sizeRow (l ++ [v]) = 0
          · have e56 := le_bool (show (((sizeRow (toRow ([] ++ l.map vD ++ [vD v])) : Nat) : Int) == 0) = true by rw [toRow_one, hm]; rfl)
            exact WK.fin ok 1000 0 [(12, .d (.bool false)), (16, .d (.bool false)), (26, .d (.bool true)), (31, .d (.bool false)), (35, .d (.bool false)), (53, .d (.bool false)), (56, .d (.bool true))]
              [(l.map vD).all isVal, true, [vD v].all isVal, true, okRow (l.map vD), true, okRow (l.map vD), true, decide ((([] : List DV).length + (l.map vD).length) * 32 ≤ 2 ^ 38), decide ((([] ++ l.map vD : List DV).length + [vD v].length) * 32 ≤ 2 ^ 38), okRow ([] ++ l.map vD ++ [vD v]), true]
              _ rfl (by kernel_rfl : runEnd cf1 true _ 1000 0 _ _ (ini 63 [.d (.lst 3 (l.map vD) full), .d (vD v)] []) = some (.d (.bool true), [], _, [(_, _), (_, _), (_, _), (_, _), (_, _), (_, _), (_, _)]))
              ⟨ha, rfl, hb, rfl, hk, rfl, hk, rfl, r1, r2, hk2, rfl, trivial⟩ ⟨e12, e16, e26, e31, e35, e53f hpos, e56, trivial⟩ ⟨rfl, rfl⟩
          · have e56 := le_bool (show (((sizeRow (toRow ([] ++ l.map vD ++ [vD v])) : Nat) : Int) == 0) = false by rw [toRow_one]; simp; omega)
            have e61 := le_bool (show decide (((sizeRow (toRow (l.map vD)) : Nat) : Int) < ((sizeRow (toRow ([] ++ l.map vD ++ [vD v])) : Nat) : Int)) = true by have := grow hpos hm; rw [toRow_map, toRow_one]; simp; omega)
            exact WK.fin ok 1000 0 [(12, .d (.bool false)), (16, .d (.bool false)), (26, .d (.bool true)), (31, .d (.bool false)), (35, .d (.bool false)), (53, .d (.bool false)), (56, .d (.bool false)), (61, .d (.bool true))]
              [(l.map vD).all isVal, true, [vD v].all isVal, true, okRow (l.map vD), true, okRow (l.map vD), true, decide ((([] : List DV).length + (l.map vD).length) * 32 ≤ 2 ^ 38), decide ((([] ++ l.map vD : List DV).length + [vD v].length) * 32 ≤ 2 ^ 38), okRow ([] ++ l.map vD ++ [vD v]), true]
              _ rfl (by kernel_rfl : runEnd cf1 true _ 1000 0 _ _ (ini 63 [.d (.lst 3 (l.map vD) full), .d (vD v)] []) = some (.d (.bool true), [], _, [(_, _), (_, _), (_, _), (_, _), (_, _), (_, _), (_, _), (_, _)]))
              ⟨ha, rfl, hb, rfl, hk, rfl, hk, rfl, r1, r2, hk2, rfl, trivial⟩ ⟨e12, e16, e26, e31, e35, e53f hpos, e56, e61, trivial⟩ ⟨rfl, rfl⟩
      · have hp := putRow_bad hc
        have e26 := le_bool (show ((putRow (toRow (l.map vD))).2 == 0) = false by rw [toRow_map, hp]; simpa using hc)
        have e53 := le_bool (show (((sizeRow (toRow (l.map vD)) : Nat) : Int) == 0) = true by rw [toRow_map, sizeRow_bad hc]; rfl)
        by_cases h3 : chkRow l = 3
        · have e35 := le_bool (show ((putRow (toRow (l.map vD))).2 == 3) = true by rw [toRow_map, hp, h3]; rfl)
          have e38 := le_bool (show (((sizeRow (toRow (l.map vD)) : Nat) : Int) != 0) = false by rw [toRow_map, sizeRow_bad hc]; rfl)
          exact WK.fin ok 1000 0 [(12, .d (.bool false)), (16, .d (.bool false)), (26, .d (.bool false)), (35, .d (.bool true)), (38, .d (.bool false)), (53, .d (.bool true))]
              [(l.map vD).all isVal, true, [vD v].all isVal, true, okRow (l.map vD), true, okRow (l.map vD), true, decide ((([] : List DV).length + (l.map vD).length) * 32 ≤ 2 ^ 38), decide ((([] ++ l.map vD : List DV).length + [vD v].length) * 32 ≤ 2 ^ 38), okRow ([] ++ l.map vD ++ [vD v]), true]
              _ rfl (by kernel_rfl : runEnd cf1 true _ 1000 0 _ _ (ini 63 [.d (.lst 3 (l.map vD) full), .d (vD v)] []) = some (.d (.bool true), [], _, [(_, _), (_, _), (_, _), (_, _), (_, _), (_, _)]))
              ⟨ha, rfl, hb, rfl, hk, rfl, hk, rfl, r1, r2, hk2, rfl, trivial⟩ ⟨e12, e16, e26, e35, e38, e53, trivial⟩ ⟨rfl, rfl⟩
        · have e35 := le_bool (show ((putRow (toRow (l.map vD))).2 == 3) = false by rw [toRow_map, hp]; simpa using h3)
          exact WK.fin ok 1000 0 [(12, .d (.bool false)), (16, .d (.bool false)), (26, .d (.bool false)), (35, .d (.bool false)), (53, .d (.bool true))]
              [(l.map vD).all isVal, true, [vD v].all isVal, true, okRow (l.map vD), true, okRow (l.map vD), true, decide ((([] : List DV).length + (l.map vD).length) * 32 ≤ 2 ^ 38), decide ((([] ++ l.map vD : List DV).length + [vD v].length) * 32 ≤ 2 ^ 38), okRow ([] ++ l.map vD ++ [vD v]), true]
              _ rfl (by kernel_rfl : runEnd cf1 true _ 1000 0 _ _ (ini 63 [.d (.lst 3 (l.map vD) full), .d (vD v)] []) = some (.d (.bool true), [], _, [(_, _), (_, _), (_, _), (_, _), (_, _)]))
              ⟨ha, rfl, hb, rfl, hk, rfl, hk, rfl, r1, r2, hk2, rfl, trivial⟩ ⟨e12, e16, e26, e35, e53, trivial⟩ ⟨rfl, rfl⟩
end Go.Proofs.Ytpigindbfkhgdaa
