/-
  RecordTakes, run.
-/
import Derived.Test.YtpigindbfkhgdaaAmL
import Derived.Test.YtpigindbfkhgdaaAmRT
import Derived.Test.YtpigindbfkhgdaaShelf
namespace Go.Proofs.Ytpigindbfkhgdaa
open Go.RowKit Plain Am IntWalk
set_option maxRecDepth 100000

def hasG : DV → DV → Option (DV × List Bool)
  | .str s, .str p => some (.bool (Lib.hasPrefix s p), [])
  | _, _ => none
theorem has_ent : EntOk Try.prog 18 (e2 hasG) := by
  refine e2_ok fun x x2 y c hg hc => ?_
  unfold hasG at hg
  split at hg
  · rename_i s t
    simp only [Option.some.injEq, Prod.mk.injEq] at hg
    obtain ⟨rfl, rfl⟩ := hg
    refine C_flat (args := [.str s, .str t]) (us := [.string ⟨s.toArray⟩, .string ⟨t.toArray⟩]) (v := .bool (Lib.hasPrefix s t)) rfl rfl fun w => ?_
    refine (Try.strings_HasPrefix ⟨s.toArray⟩ ⟨t.toArray⟩ w).mono ?_
    rintro e w' ⟨rfl, rfl⟩
    exact ⟨rfl, Below.refl _ _⟩
  · cases hg
noncomputable def tab2 : List (Nat × Ent) := (18, e2 hasG) :: (16, e1 rtkG) :: tab1
theorem tab2_ok : EntsOk Try.prog tab2 := .cons has_ent (.cons rtk_ent tab1_ok)
noncomputable abbrev cf2 : Cfg := cfT tab2

theorem takeRow_okRow {s : Bs} {l : List Val} (h : takeRow s = some l) : okRow (l.map vD) = true := by
  obtain ⟨h1, h2⟩ := takeRow_spec h
  obtain ⟨h3, _, _⟩ := putRow_ok (l := l) (by rw [h1])
  have := (chkRow_zero h3).1
  exact okRow_map (by omega) h2

theorem takes_c (s : Bs) : C Try.prog 4 [.d (.str s)] [] (fun r o => r = .d (.bool true) ∧ o = []) := by
  have ok := cfT_ok tab2_ok
  refine C_of_run (fn := Try.f4) (body := (Try.f4.body).getD .skip) true (by kernel_rfl) (by kernel_rfl) (by kernel_rfl) ?_
  by_cases hg : 8192 < s.length
  · exact WK.fin ok 1000 0 [(11, .d (.bool true))] [] [(.d (.bool (decide ((8192 : Int) < (s.length : Int)))), .d (.bool true))] rfl
      (by kernel_rfl : runEnd cf2 true _ 1000 0 _ _ (ini 30 [.d (.str s)] []) = some (.d (.bool true), [], _, _)) trivial ⟨le_bool (by simp; omega), trivial⟩ ⟨rfl, rfl⟩
  · have hs : decide (s.length ≤ 1048576) = true := by simp; omega
    have e11 := le_bool (show decide ((8192 : Int) < (s.length : Int)) = false by simp; omega)
    cases ht : takeRow s with
    | none =>
      exact WK.fin ok 1000 0 [(11, .d (.bool false)), (14, .d (.tup [.lst 3 [] false, .int .i64 7])), (19, .d (.tup [.lst 0 [] true, .int .i64 7])), (24, .d (.bool true))]
        [decide (s.length ≤ 1048576), okRow [], okRow []]
        [(.d (.bool (decide ((8192 : Int) < (s.length : Int)))), .d (.bool false)), (.d (.tup [.lst 3 (((takeRow s).getD []).map vD) false, .int .i64 (if takeRow s = none then 7 else 0)]), .d (.tup [.lst 3 [] false, .int .i64 7])),
          (.d (.tup [rtkL s, .int .i64 (if takeRow s = none then 7 else 0)]), .d (.tup [.lst 0 [] true, .int .i64 7])), (.d (.bool (decide (toRow [] = toRow []))), .d (.bool true))] rfl
        (by kernel_rfl : runEnd cf2 true _ 1000 0 _ _ (ini 30 [.d (.str s)] []) = some (.d (.bool true), [], _, _)) ⟨hs, rfl, rfl, trivial⟩ ⟨e11, .of_eq (by rw [ht]; rfl), .of_eq (by simp [rtkL, ht]), le_bool (by simp), trivial⟩ ⟨rfl, rfl⟩
    | some l =>
      have hk := takeRow_okRow ht
      exact WK.fin ok 1000 0 [(11, .d (.bool false)), (14, .d (.tup [.lst 3 (l.map vD) false, .int .i64 0])), (19, .d (.tup [.lst 3 (l.map vD) false, .int .i64 0])), (24, .d (.bool true))]
        [decide (s.length ≤ 1048576), okRow (l.map vD), okRow (l.map vD)]
        [(.d (.bool (decide ((8192 : Int) < (s.length : Int)))), .d (.bool false)), (.d (.tup [.lst 3 (((takeRow s).getD []).map vD) false, .int .i64 (if takeRow s = none then 7 else 0)]), .d (.tup [.lst 3 (l.map vD) false, .int .i64 0])),
          (.d (.tup [rtkL s, .int .i64 (if takeRow s = none then 7 else 0)]), .d (.tup [.lst 3 (l.map vD) false, .int .i64 0])), (.d (.bool (decide (toRow (l.map vD) = toRow (l.map vD)))), .d (.bool true))] rfl
        (by kernel_rfl : runEnd cf2 true _ 1000 0 _ _ (ini 30 [.d (.str s)] []) = some (.d (.bool true), [], _, _)) ⟨hs, hk, hk, trivial⟩ ⟨e11, .of_eq (by rw [ht]; rfl), .of_eq (by simp [rtkL, ht]), le_bool (by simp), trivial⟩ ⟨rfl, rfl⟩
end Go.Proofs.Ytpigindbfkhgdaa
