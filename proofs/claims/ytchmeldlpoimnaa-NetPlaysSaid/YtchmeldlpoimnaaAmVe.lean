/-
  NetPlays: the states at the loop's head, one out of the other.
-/
import Derived.Test.YtchmeldlpoimnaaAmVb
namespace Go.Proofs.Ytchmeldlpoimnaa
open Go.RowKit Am IntWalk
set_option maxRecDepth 100000
set_option linter.unusedVariables false
set_option linter.unusedSimpArgs false

theorem frzEq (l : List Opx) (nr : List (DV × DV)) (last : Int) (ra : List DV) (rl i : Int) :
    (plG l nr last ra rl i).den = { (plA l nr last ra rl i).den with O := setT (plA l nr last ra rl i).den.O 203 (some (.frz 5 ra)) } := by
  simp only [ESt.den, plG, plA]
  congr 1
  funext q
  by_cases h0 : q = 200
  · subst h0; rfl
  by_cases h1 : q = 201
  · subst h1; rfl
  by_cases h2 : q = 202
  · subst h2; rfl
  by_cases h3 : q = 203
  · subst h3; rfl
  rw [setT_ne _ _ h3]
  simp only [T.mk]
  simp only [T.get_set_ne _ h0, T.get_set_ne _ h1, T.get_set_ne _ h2, T.get_set_ne _ h3]
theorem nilEq (l : List Opx) (nr : List (DV × DV)) :
    (plA l nr 0 [] 0 0).den = { (plZ l nr).den with O := setT (setT (plZ l nr).den.O 203 (some (.arr 61 5 []))) 201 (some (.box 72 ([.d (.lst 0 [] true), .d (.int .i64 0)].set 0 (.own 203 5)))) } := by
  simp only [ESt.den, plZ, plA]
  congr 1
  funext q
  by_cases h0 : q = 200
  · subst h0; rfl
  by_cases h1 : q = 201
  · subst h1; rfl
  by_cases h2 : q = 202
  · subst h2; rfl
  by_cases h3 : q = 203
  · subst h3; rfl
  rw [setT_ne _ _ h1, setT_ne _ _ h3]
  simp only [T.mk]
  simp only [T.get_set_ne _ h0, T.get_set_ne _ h1, T.get_set_ne _ h2, T.get_set_ne _ h3]
theorem fromA {l : List Opx} {nr : List (DV × DV)} {last : Int} {ra : List DV} {rl i : Int} {k : List It} {Q : SSt → Prop} (h : WK Try.prog 0 k (plG l nr last ra rl i).den Q) : WK Try.prog 0 k (plA l nr last ra rl i).den Q :=
  WK.freeze (i := 203) (ty := 61) (sz := 5) (els := ra) rfl (frzEq l nr last ra rl i) h
theorem fromZ {l : List Opx} {nr : List (DV × DV)} {k : List It} {Q : SSt → Prop} (h : WK Try.prog 0 k (plG l nr 0 [] 0 0).den Q) : WK Try.prog 0 k (plZ l nr).den Q :=
  WK.nilBox (i := 201) (j := 0) (sl := 203) (ty := 61) (sz := 5) (sz' := 0) (cs := [.d (.lst 0 [] true), .d (.int .i64 0)]) rfl rfl rfl (nilEq l nr) (fromA h)
end Go.Proofs.Ytchmeldlpoimnaa
