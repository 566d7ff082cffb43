/-
  A law's argument as a page.
-/
import Derived.Test.YtchmeldlpoimnaaAmN
import Derived.Test.YtchmeldlpoimnaaAmC
import Derived.Test.YtchmeldlpoimnaaRows
namespace Go.Proofs.Ytchmeldlpoimnaa
open Go.RowKit Am
set_option maxRecDepth 100000

theorem und_cells : Try.prog.underlying 37 = some (.slice 42) := by kernel_rfl
theorem agg_cell : isAggT Try.prog 42 = true := by kernel_rfl
theorem agg_node : isAggT Try.prog 39 = true := by kernel_rfl
theorem cells_cell : Try.prog.cellsOf 42 = 4 := by kernel_rfl
theorem cells_node : Try.prog.cellsOf 39 = 4 := by kernel_rfl

theorem cell_ty {xs : List DV} (h : Ty Try.prog 42 xs) : ∃ v : Cel, .agg xs = cD v := by
  have hu : ∃ fs, Try.prog.underlying 42 = some (.struct fs) ∧ (fs[0]?.map fun f => (f.type, f.offset)) = some (9, 0) ∧ (fs[1]?.map fun f => (f.type, f.offset)) = some (3, 1) ∧ (fs[2]?.map fun f => (f.type, f.offset)) = some (9, 2) ∧ (fs[3]?.map fun f => (f.type, f.offset)) = some (3, 3) :=
    ⟨_, Try.underlying42, rfl, rfl, rfl, rfl⟩
  obtain ⟨fs, hu, e0, e1, e2, e3⟩ := hu
  obtain ⟨hl, hf⟩ := h.struct_inv hu
  rw [cells_cell] at hl
  match xs, hl with
  | [a, b, c, d], _ =>
    simp only [Option.map_eq_some_iff, Prod.mk.injEq] at e0 e1 e2 e3
    obtain ⟨f0, h0, t0, o0⟩ := e0
    obtain ⟨f1, h1, t1, o1⟩ := e1
    obtain ⟨f2, h2, t2, o2⟩ := e2
    obtain ⟨f3, h3, t3, o3⟩ := e3
    have k0 := hf 0 f0 h0
    have k1 := hf 1 f1 h1
    have k2 := hf 2 f2 h2
    have k3 := hf 3 f3 h3
    rw [t0, o0, (by kernel_rfl : Try.prog.cellsOf 9 = 1)] at k0
    rw [t1, o1, (by kernel_rfl : Try.prog.cellsOf 3 = 1)] at k1
    rw [t2, o2, (by kernel_rfl : Try.prog.cellsOf 9 = 1)] at k2
    rw [t3, o3, (by kernel_rfl : Try.prog.cellsOf 3 = 1)] at k3
    obtain ⟨s0, q0, _⟩ := k0.str_inv (by kernel_rfl)
    obtain ⟨n1, q1, _⟩ := k1.int_inv (k := .i64) (by kernel_rfl)
    obtain ⟨s2, q2, _⟩ := k2.str_inv (by kernel_rfl)
    obtain ⟨n3, q3, _⟩ := k3.int_inv (k := .i64) (by kernel_rfl)
    simp at q0 q1 q2 q3
    subst q0 q1 q2 q3
    exact ⟨⟨s0, n1, s2, n3⟩, rfl⟩

theorem cells_ty {xs : List DV} (h : Ty Try.prog 37 xs) : ∃ l : List Cel, xs = [.lst 4 (l.map cD) false] := by
  obtain ⟨els, rfl, _, he⟩ := h.lst_inv und_cells
  rw [cells_cell]
  have : ∀ els : List DV, (∀ x ∈ els, x = elOf (isAggT Try.prog 42) x.cells ∧ x.cells.length = Try.prog.cellsOf 42 ∧ Ty Try.prog 42 x.cells) → ∃ l : List Cel, els = l.map cD := by
    intro els
    induction els with
    | nil => intro _; exact ⟨[], rfl⟩
    | cons x r ih =>
      intro h
      obtain ⟨l, h1⟩ := ih (fun y hy => h y (by simp [hy]))
      obtain ⟨g1, _, g3⟩ := h x (by simp)
      obtain ⟨v, v1⟩ := cell_ty g3
      rw [agg_cell] at g1
      exact ⟨v :: l, by rw [g1, h1]; simp only [elOf, cond_true, v1, List.map_cons]⟩
  obtain ⟨l, rfl⟩ := this els he
  exact ⟨l, rfl⟩

theorem node_ty {xs : List DV} (h : Ty Try.prog 39 xs) : ∃ v : Nod, .agg xs = nD v ∧ (0 ≤ v.kind ∧ v.kind < 256) := by
  have hu : ∃ fs, Try.prog.underlying 39 = some (.struct fs) ∧ (fs[0]?.map fun f => (f.type, f.offset)) = some (5, 0) ∧ (fs[1]?.map fun f => (f.type, f.offset)) = some (3, 1) ∧ (fs[2]?.map fun f => (f.type, f.offset)) = some (37, 2) ∧ (fs[3]?.map fun f => (f.type, f.offset)) = some (9, 3) :=
    ⟨_, Try.underlying39, rfl, rfl, rfl, rfl⟩
  obtain ⟨fs, hu, e0, e1, e2, e3⟩ := hu
  obtain ⟨hl, hf⟩ := h.struct_inv hu
  rw [cells_node] at hl
  match xs, hl with
  | [a, b, c, d], _ =>
    simp only [Option.map_eq_some_iff, Prod.mk.injEq] at e0 e1 e2 e3
    obtain ⟨f0, h0, t0, o0⟩ := e0
    obtain ⟨f1, h1, t1, o1⟩ := e1
    obtain ⟨f2, h2, t2, o2⟩ := e2
    obtain ⟨f3, h3, t3, o3⟩ := e3
    have k0 := hf 0 f0 h0
    have k1 := hf 1 f1 h1
    have k2 := hf 2 f2 h2
    have k3 := hf 3 f3 h3
    rw [t0, o0, (by kernel_rfl : Try.prog.cellsOf 5 = 1)] at k0
    rw [t1, o1, (by kernel_rfl : Try.prog.cellsOf 3 = 1)] at k1
    rw [t2, o2, (by kernel_rfl : Try.prog.cellsOf 37 = 1)] at k2
    rw [t3, o3, (by kernel_rfl : Try.prog.cellsOf 9 = 1)] at k3
    obtain ⟨n0, q0, w0⟩ := k0.int_inv (k := .u8) (by kernel_rfl)
    obtain ⟨n1, q1, _⟩ := k1.int_inv (k := .i64) (by kernel_rfl)
    obtain ⟨l2, q2⟩ := cells_ty k2
    obtain ⟨s3, q3, _⟩ := k3.str_inv (by kernel_rfl)
    simp at q0 q1 q2 q3
    subst q0 q1 q2 q3
    refine ⟨⟨n0, n1, l2, s3⟩, rfl, ?_⟩
    simp [Lit.wf, IntKind.min, IntKind.max, IntKind.signed, IntKind.bits] at w0
    exact ⟨(by omega : 0 ≤ n0), (by omega : n0 < 256)⟩
end Go.Proofs.Ytchmeldlpoimnaa
