/-
  The record law's arguments as rows of values.
-/
import Derived.Test.YtpigindbfkhgdaaAmL
import Derived.Test.YtpigindbfkhgdaaAmC
import Derived.Test.YtpigindbfkhgdaaRows
namespace Go.Proofs.Ytpigindbfkhgdaa
open Go.RowKit Plain Am

theorem und_row : Try.prog.underlying 22 = some (.slice 36) := by kernel_rfl
theorem agg_val : isAggT Try.prog 36 = true := by kernel_rfl
theorem cells_val : Try.prog.cellsOf 36 = 3 := by kernel_rfl

theorem val_ty {xs : List DV} (h : Ty Try.prog 36 xs) : ∃ v, .agg xs = vD v ∧ v.wf := by
  have hu : ∃ fs, Try.prog.underlying 36 = some (.struct fs) ∧ (fs[0]?.map fun f => (f.type, f.offset)) = some (5, 0) ∧ (fs[1]?.map fun f => (f.type, f.offset)) = some (2, 1) ∧ (fs[2]?.map fun f => (f.type, f.offset)) = some (9, 2) :=
    ⟨_, Try.underlying36, rfl, rfl, rfl⟩
  obtain ⟨fs, hu, e0, e1, e2⟩ := hu
  obtain ⟨hl, hf⟩ := h.struct_inv hu
  rw [cells_val] at hl
  match xs, hl with
  | [a, b, c], _ =>
    simp only [Option.map_eq_some_iff, Prod.mk.injEq] at e0 e1 e2
    obtain ⟨f0, h0, t0, o0⟩ := e0
    obtain ⟨f1, h1, t1, o1⟩ := e1
    obtain ⟨f2, h2, t2, o2⟩ := e2
    have k0 := hf 0 f0 h0
    have k1 := hf 1 f1 h1
    have k2 := hf 2 f2 h2
    rw [t0, o0, (by kernel_rfl : Try.prog.cellsOf 5 = 1)] at k0
    rw [t1, o1, (by kernel_rfl : Try.prog.cellsOf 2 = 1)] at k1
    rw [t2, o2, (by kernel_rfl : Try.prog.cellsOf 9 = 1)] at k2
    obtain ⟨k, q0, w0⟩ := k0.int_inv (k := .u8) (by kernel_rfl)
    obtain ⟨n, q1, w1⟩ := k1.int_inv (k := .i64) (by kernel_rfl)
    obtain ⟨s, q2, _⟩ := k2.str_inv (by kernel_rfl)
    simp at q0 q1 q2
    subst q0 q1 q2
    refine ⟨⟨k, n, s⟩, rfl, ?_⟩
    simp [Lit.wf, IntKind.min, IntKind.max, IntKind.signed, IntKind.bits] at w0 w1
    exact ⟨w0.1, w0.2, w1.1, w1.2⟩

theorem row_ty {xs : List DV} (h : Ty Try.prog 22 xs) : ∃ l : List Val, xs = [.lst 3 (l.map vD) false] ∧ (∀ v ∈ l, v.wf) := by
  obtain ⟨els, rfl, _, he⟩ := h.lst_inv und_row
  rw [cells_val]
  have : ∀ els : List DV, (∀ x ∈ els, x = elOf (isAggT Try.prog 36) x.cells ∧ x.cells.length = Try.prog.cellsOf 36 ∧ Ty Try.prog 36 x.cells) → ∃ l : List Val, els = l.map vD ∧ ∀ v ∈ l, v.wf := by
    intro els
    induction els with
    | nil => intro _; exact ⟨[], rfl, by simp⟩
    | cons x r ih =>
      intro h
      obtain ⟨l, h1, h2⟩ := ih (fun y hy => h y (by simp [hy]))
      obtain ⟨g1, _, g3⟩ := h x (by simp)
      obtain ⟨v, v1, v2⟩ := val_ty g3
      rw [agg_val] at g1
      refine ⟨v :: l, by rw [g1, h1]; simp only [elOf, cond_true, v1, List.map_cons], fun u hu => ?_⟩
      rcases List.mem_cons.1 hu with rfl | hu
      · exact v2
      · exact h2 u hu
  obtain ⟨l, rfl, h2⟩ := this els he
  exact ⟨l, rfl, h2⟩

theorem own : ownKnob Try.prog.godebug = none := by kernel_rfl
theorem laid : laidOutB Try.prog = true := by kernel_rfl
end Go.Proofs.Ytpigindbfkhgdaa
