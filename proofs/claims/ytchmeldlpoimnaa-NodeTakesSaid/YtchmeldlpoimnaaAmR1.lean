/-
  The reference's pages: which may be; the table of its small functions.
-/
import Derived.Test.YtchmeldlpoimnaaAmN8
namespace Go.Proofs.Ytchmeldlpoimnaa
open Go.RowKit Am IntWalk
set_option maxRecDepth 100000
set_option linter.unusedSimpArgs false
set_option linter.unusedVariables false

theorem bl_tri : ∀ (a b : Bs), (Op.bytesLess a b || a == b) = !Op.bytesLess b a
  | [], [] => by simp [Op.bytesLess]
  | _ :: _, [] => by simp [Op.bytesLess]
  | [], _ :: _ => by simp [Op.bytesLess]
  | a :: x, b :: y => by
    have ih := bl_tri x y
    rw [Op.bytesLess, Op.bytesLess]
    by_cases h2 : a = b
    · subst h2
      simp only [UInt8.lt_irrefl, decide_false, Bool.false_or, beq_self_eq_true, Bool.true_and]
      rw [← ih]
      simp
    · have h2' : ¬ b = a := fun e => h2 e.symm
      by_cases h1 : a < b
      · have h3 : ¬ b < a := fun h => UInt8.lt_irrefl _ (UInt8.lt_trans h1 h)
        simp [h1, h3, h2, h2']
      · have h3 : b < a := by
          rcases UInt8.lt_or_lt_of_ne h2 with h | h
          · exact absurd h h1
          · exact h
        simp [h1, h3, h2, h2']

theorem in_c (n m : Int) : C Try.prog 74 [.d (.int .i64 n), .d (.int .i64 m)] [] (fun r o => r = .d (.bool (pageB n m)) ∧ o = []) := by
  have ok := cfT_ok (l := []) .nil
  refine C_of_run (fn := Try.f74) (body := (Try.f74.body).getD .skip) true (by kernel_rfl) (by kernel_rfl) (by kernel_rfl) ?_
  cases h8 : decide (m ≤ n) with
  | true => exact WK.fin ok 1000 0 [(8, .d (.bool true))] [] [(.d (.bool (decide (m ≤ n))), .d (.bool true))] rfl (by kernel_rfl : runEnd (cfT []) true _ 1000 0 _ _ (ini 12 [.d (.int .i64 n), .d (.int .i64 m)] []) = some (.d (.bool (decide (n ≤ 256))), [], _, _)) trivial ⟨le_bool h8, trivial⟩ ⟨by simp [pageB, h8], rfl⟩
  | false => exact WK.fin ok 1000 0 [(8, .d (.bool false))] [] [(.d (.bool (decide (m ≤ n))), .d (.bool false))] rfl (by kernel_rfl : runEnd (cfT []) true _ 1000 0 _ _ (ini 12 [.d (.int .i64 n), .d (.int .i64 m)] []) = some (.d (.bool false), [], _, _)) trivial ⟨le_bool h8, trivial⟩ ⟨by simp [pageB, h8], rfl⟩
theorem in_ent : EntOk Try.prog 74 (e2 pageG) := by
  refine ent2 fun x x2 y c hg _ => ?_
  unfold pageG at hg
  split at hg
  · simp only [Option.some.injEq, Prod.mk.injEq] at hg
    obtain ⟨rfl, rfl⟩ := hg
    exact in_c _ _
  · cases hg
noncomputable def trA : List (Nat × Ent) := (74, e2 pageG) :: tnE
theorem trA_ok : EntsOk Try.prog trA := .cons in_ent tnE_ok

def upAt (l : List Cel) (i : Nat) : Bool := Op.bytesLess (ndAt l (i - 1)).key (ndAt l i).key
def riseB (l : List Cel) : Bool := (List.range l.length).all fun i => i == 0 || upAt l i
def riseG : DV → Option (DV × List Bool)
  | .lst 4 els false => some (.bool (riseB (els.map toCel)), [els.all isCel, decide (els.length ≤ 500000)])
  | _ => none
noncomputable abbrev riC : Code := (Try.f73.body).getD .skip
def riS (l : List Cel) (i : Nat) : ESt := { n := 23, m := 0, regs := T.mk [(0, .d (.lst 4 (l.map cD) false)), (3, .d (.int .i64 (i : Int)))], objs := T.mk [] }
noncomputable abbrev mrC : Code := (Try.f32.body).getD .skip
def mrS (n : Nod) (b : Bool) (i : Nat) : ESt := { n := 159, m := 0, regs := T.mk [(1, .ptr 200 0), (3, .d (.bool b)), (4, .d (.int .i64 (i : Int)))], objs := T.mk [(200, .box 39 [.d (.int .u8 n.kind), .d (.int .i64 n.first), .d (.lst 4 (n.cells.map cD) false), .d (.str n.data)])] }
noncomputable def trB0 : List (Nat × Ent) := (73, e1 riseG) :: trA
end Go.Proofs.Ytchmeldlpoimnaa
