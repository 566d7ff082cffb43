/-
  The record law's great: more than 60 values, or a text of more than 4096 bytes.
-/
import Derived.Test.YtpigindbfkhgdaaAmT
import Derived.IntWalk
namespace Go.Proofs.Ytpigindbfkhgdaa
open Go.RowKit Plain Am IntWalk
set_option maxRecDepth 100000
set_option linter.unusedVariables false

noncomputable abbrev greatB : Code := (Try.f9.body).getD .skip
noncomputable abbrev cfG : Cfg := cfT []
def greatS (els : List DV) (full : Bool) (i : Nat) : ESt := { n := 19, m := 0, regs := T.mk [(8, .d (.lst 3 els full)), (9, .d (.int .i64 (els.length : Int))), (10, .d (.int .i64 (i : Int)))], objs := T.mk [] }

def bigV (v : Val) : Bool := decide (4096 < v.s.length)
def greatV (l : List Val) : Bool := decide (60 < l.length) || l.any bigV

theorem getD_map (l : List Val) (i : Nat) (h : i < l.length) : (l.map vD).getD i .nilp = vD l[i] := by simp [h]

theorem great_c (l : List Val) (sz : Nat) (full : Bool) (h3 : sz = 3) : C Try.prog 9 [.d (.lst sz (l.map vD) full)] [] (fun r o => r = .d (.bool (greatV l)) ∧ o = []) := by
  subst h3
  have ok := cfT_ok (l := []) .nil
  refine C_of_run (fn := Try.f9) (body := greatB) true (by kernel_rfl) (by kernel_rfl) (by kernel_rfl) ?_
  by_cases h60 : 60 < l.length
  · refine WK.fin ok 1000 0 [(7, .d (.bool true))] [] [(.d (.bool (decide ((60 : Int) < ((l.map vD).length : Int)))), .d (.bool true))] rfl (by kernel_rfl : runEnd cfG true _ 1000 0 _ _ (ini 19 [.d (.lst 3 (l.map vD) full)] []) = some (.d (.bool true), [], _, _)) trivial ⟨?_, trivial⟩ ⟨?_, rfl⟩
    · exact le_bool (by simp; omega)
    · simp [greatV, h60]
  · refine WK.seg ok 1000 0 [(7, .d (.bool false))] {live := [8,9,10]} [] [(.d (.bool (decide ((60 : Int) < ((l.map vD).length : Int)))), .d (.bool false))] rfl (by kernel_rfl : runSeg cfG _ _ _ _ _ (ini 19 [.d (.lst 3 (l.map vD) full)] []) = some (stackAt greatB 0, greatS (l.map vD) full 0, _, _)) trivial ⟨le_bool (by simp; omega), trivial⟩ ?_
    refine WK.rec' (fun i => greatS (l.map vD) full i) (fun i => i ≤ l.length ∧ ∀ j (h : j < l.length), j < i → bigV l[j] = false) (fun i => l.length - i) ?_ 0 ⟨by omega, fun j _ h => by omega⟩
    rintro i ⟨hi, hb⟩ ih
    by_cases hlt : i < l.length
    · have hg := getD_map l i hlt
      by_cases hbig : bigV l[i] = true
      · refine WK.fin ok 1000 0 [(11, .d (.bool true)), (12, .iptr (vD l[i]) 0), (17, .d (.bool true))] [decide (0 ≤ (i : Int) ∧ (i : Int) < ((l.map vD).length : Int))]
          [(.d (.bool (decide ((i : Int) < ((l.map vD).length : Int)))), .d (.bool true)), (.iptr ((l.map vD).getD (i : Int).toNat .nilp) 0, .iptr (vD l[i]) 0), (.d (.bool (decide ((4096 : Int) < (l[i].s.length : Int)))), .d (.bool true))] rfl
          (by kernel_rfl : runEnd cfG true _ 1000 0 _ _ (greatS (l.map vD) full i) = some (.d (.bool true), [], _, _)) ⟨by simp; omega, trivial⟩ ⟨le_bool (by simp; omega), .of_eq (by rw [Int.toNat_natCast, hg]), le_bool ?_, trivial⟩ ⟨?_, rfl⟩
        · simp [bigV] at hbig; simp; omega
        · have : l.any bigV = true := List.any_eq_true.2 ⟨l[i], by simp, hbig⟩
          simp [greatV, this]
      · have hbf : bigV l[i] = false := by simpa using hbig
        refine WK.seg ok 1000 0 [(11, .d (.bool true)), (12, .iptr (vD l[i]) 0), (17, .d (.bool false)), (18, .d (.int .i64 ((i + 1 : Nat) : Int)))] {live := [8,9,10]} [decide (0 ≤ (i : Int) ∧ (i : Int) < ((l.map vD).length : Int))]
          [(.d (.bool (decide ((i : Int) < ((l.map vD).length : Int)))), .d (.bool true)), (.iptr ((l.map vD).getD (i : Int).toNat .nilp) 0, .iptr (vD l[i]) 0), (.d (.bool (decide ((4096 : Int) < (l[i].s.length : Int)))), .d (.bool false)),
           (.d (.int .i64 (IntKind.i64.wrap ((i : Int) + 1))), .d (.int .i64 ((i + 1 : Nat) : Int)))] rfl
          (by kernel_rfl : runSeg cfG _ _ _ _ _ (greatS (l.map vD) full i) = some (stackAt greatB 0, greatS (l.map vD) full (i + 1), _, _)) ⟨by simp; omega, trivial⟩ ⟨le_bool (by simp; omega), .of_eq (by rw [Int.toNat_natCast, hg]), le_bool ?_, .of_eq ?_, trivial⟩ ?_
        · simp [bigV] at hbf; simp; omega
        · congr 2; rw [i64_in _ (by omega)]; omega
        · refine ih (i + 1) ⟨by omega, fun j hj hji => ?_⟩ (by omega)
          rcases Nat.lt_or_ge j i with h | h
          · exact hb j hj h
          · obtain rfl : j = i := by omega
            exact hbf
    · refine WK.fin ok 1000 0 [(11, .d (.bool false))] [] [(.d (.bool (decide ((i : Int) < ((l.map vD).length : Int)))), .d (.bool false))] rfl
          (by kernel_rfl : runEnd cfG true _ 1000 0 _ _ (greatS (l.map vD) full i) = some (.d (.bool false), [], _, _)) trivial ⟨le_bool (by simp; omega), trivial⟩ ⟨?_, rfl⟩
      have : l.any bigV = false := by
        rw [List.any_eq_false]
        intro v hv
        obtain ⟨j, hj, rfl⟩ := List.mem_iff_getElem.1 hv
        simp [hb j hj (by omega)]
      simp [greatV, this]; omega
end Go.Proofs.Ytpigindbfkhgdaa
