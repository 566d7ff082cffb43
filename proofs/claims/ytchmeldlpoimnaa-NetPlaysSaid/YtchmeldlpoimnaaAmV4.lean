/-
  Letters: the table with slices.Sorted in it; the states of Flight's loop.
-/
import Derived.Test.YtchmeldlpoimnaaAmV3
import Derived.Test.YtchmeldlpoimnaaAmVs
namespace Go.Proofs.Ytchmeldlpoimnaa
open Go.RowKit Am IntWalk
set_option maxRecDepth 100000
set_option linter.unusedVariables false

def srtEn : Ent := fun a o => match a, o with
  | [.clo (.func 112) [] [.ptr 0 0]], [.box T [.map 1], .map es] => some (.d (.lst 1 (sortedKeys es) false), [.box T [.map 1], .map es], [decide (es.length ≤ 1000), kUp es 0])
  | _, _ => none
theorem srt_ent : EntOk Try.prog 81 srtEn := by
  intro p o r o' c hg hc
  unfold srtEn at hg
  split at hg
  · rename_i T es
    simp only [Option.some.injEq, Prod.mk.injEq] at hg
    obtain ⟨rfl, rfl, rfl⟩ := hg
    exact sorted_c es T (of_decide_eq_true (hc _ (by simp))) (hc (kUp es 0) (by simp))
  · cases hg
noncomputable def tv3 : List (Nat × Ent) := (81, srtEn) :: tv2
theorem tv3_ok : EntsOk Try.prog tv3 := .cons srt_ent tv2_ok

def keysEn : Ent := fun a o => match a, o with
  | [.map 0], [.map es] => some (.clo (.func 112) [] [.ptr 1 0], [.map es, .box 55 [.map 0]], [])
  | _, _ => none
def dropEn : Ent := fun p o => match p, o with
  | [.ptr 0 0, .d (.int .i64 id)], [.box 115 [.map 1, .d (.int .i64 last)], .map es] =>
    some (.d (.int .i64 (findN id (unrows es)).2), netO (del id (unrows es)) last, [isRows es last])
  | _, _ => none
noncomputable def tv4 : List (Nat × Ent) := (82, keysEn) :: (40, dropEn) :: tv3
noncomputable abbrev flC : Code := bodyOf Try.f43
def flR (L : List Ltr) (i : Nat) (out : RV) : T RV := T.mk [(0, .ptr 0 0), (3, out), (13, .d (.lst 1 (sortedKeys (rows L)) false)), (14, .d (.int .i64 ((sortedKeys (rows L)).length : Int))), (15, .d (.int .i64 (i : Int)))]
def flS0 (L : List Ltr) (last : Int) : ESt := { n := 30, m := 2, regs := flR L 0 (.d (.lst 0 [] true)), objs := T.mk [(0, .box 115 [.map 1, .d (.int .i64 last)]), (1, .map (rows L))] }
def flS1 (L : List Ltr) (last : Int) (i : Nat) (els : List DV) : ESt := { n := 30, m := 2, regs := flR L i (.own 200 5), objs := T.mk [(0, .box 115 [.map 1, .d (.int .i64 last)]), (1, .map (rows L)), (200, .arr 61 5 els)] }
end Go.Proofs.Ytchmeldlpoimnaa
