/-
  A law's argument as a script.
-/
import Derived.Test.YtchmeldlpoimnaaAmW1
import Derived.Test.YtchmeldlpoimnaaRows
namespace Go.Proofs.Ytchmeldlpoimnaa
open Go.RowKit Am
set_option maxRecDepth 100000

theorem und_ops : Try.prog.underlying 51 = some (.slice 57) := by kernel_rfl
theorem agg_op : isAggT Try.prog 57 = true := by kernel_rfl
theorem cells_op : Try.prog.cellsOf 57 = 5 := by kernel_rfl
theorem op_ty {xs : List DV} (h : Ty Try.prog 57 xs) : ∃ v : Opx, .agg xs = oD v ∧ (0 ≤ v.y ∧ v.y < 256) := by
  have hu : ∃ fs, Try.prog.underlying 57 = some (.struct fs) ∧ (fs[0]?.map fun f => (f.type, f.offset)) = some (3, 0) ∧ (fs[1]?.map fun f => (f.type, f.offset)) = some (3, 1) ∧ (fs[2]?.map fun f => (f.type, f.offset)) = some (3, 2) ∧ (fs[3]?.map fun f => (f.type, f.offset)) = some (9, 3) ∧ (fs[4]?.map fun f => (f.type, f.offset)) = some (5, 4) :=
    ⟨_, Try.underlying57, rfl, rfl, rfl, rfl, rfl⟩
  obtain ⟨fs, hu, e0, e1, e2, e3, e4⟩ := hu
  obtain ⟨hl, hf⟩ := h.struct_inv hu
  rw [cells_op] at hl
  match xs, hl with
  | [a, b, c, d, e], _ =>
    simp only [Option.map_eq_some_iff, Prod.mk.injEq] at e0 e1 e2 e3 e4
    obtain ⟨f0, h0, t0, o0⟩ := e0
    obtain ⟨f1, h1, t1, o1⟩ := e1
    obtain ⟨f2, h2, t2, o2⟩ := e2
    obtain ⟨f3, h3, t3, o3⟩ := e3
    obtain ⟨f4, h4, t4, o4⟩ := e4
    have k0 := hf 0 f0 h0
    have k1 := hf 1 f1 h1
    have k2 := hf 2 f2 h2
    have k3 := hf 3 f3 h3
    have k4 := hf 4 f4 h4
    rw [t0, o0, (by kernel_rfl : Try.prog.cellsOf 3 = 1)] at k0
    rw [t1, o1, (by kernel_rfl : Try.prog.cellsOf 3 = 1)] at k1
    rw [t2, o2, (by kernel_rfl : Try.prog.cellsOf 3 = 1)] at k2
    rw [t3, o3, (by kernel_rfl : Try.prog.cellsOf 9 = 1)] at k3
    rw [t4, o4, (by kernel_rfl : Try.prog.cellsOf 5 = 1)] at k4
    obtain ⟨n0, q0, _⟩ := k0.int_inv (k := .i64) (by kernel_rfl)
    obtain ⟨n1, q1, _⟩ := k1.int_inv (k := .i64) (by kernel_rfl)
    obtain ⟨n2, q2, _⟩ := k2.int_inv (k := .i64) (by kernel_rfl)
    obtain ⟨s3, q3, _⟩ := k3.str_inv (by kernel_rfl)
    obtain ⟨n4, q4, w4⟩ := k4.int_inv (k := .u8) (by kernel_rfl)
    simp at q0 q1 q2 q3 q4
    subst q0 q1 q2 q3 q4
    refine ⟨⟨n0, n1, n2, s3, n4⟩, rfl, ?_⟩
    simp [Lit.wf, IntKind.min, IntKind.max, IntKind.signed, IntKind.bits] at w4
    exact ⟨(by omega : 0 ≤ n4), (by omega : n4 < 256)⟩
theorem ops_ty {xs : List DV} (h : Ty Try.prog 51 xs) : ∃ l : List Opx, xs = [.lst 5 (l.map oD) false] ∧ l.length ≤ 9223372036854775807 ∧ ∀ x ∈ l, 0 ≤ x.y ∧ x.y < 256 := by
  obtain ⟨els, rfl, hn, he⟩ := h.lst_inv und_ops
  rw [cells_op]
  have : ∀ els : List DV, (∀ x ∈ els, x = elOf (isAggT Try.prog 57) x.cells ∧ x.cells.length = Try.prog.cellsOf 57 ∧ Ty Try.prog 57 x.cells) → ∃ l : List Opx, els = l.map oD ∧ ∀ x ∈ l, 0 ≤ x.y ∧ x.y < 256 := by
    intro els
    induction els with
    | nil => intro _; exact ⟨[], rfl, by simp⟩
    | cons x r ih =>
      intro h
      obtain ⟨l, h1, h2⟩ := ih (fun y hy => h y (by simp [hy]))
      obtain ⟨g1, _, g3⟩ := h x (by simp)
      obtain ⟨v, v1, v2⟩ := op_ty g3
      rw [agg_op] at g1
      exact ⟨v :: l, by rw [g1, h1]; simp only [elOf, cond_true, v1, List.map_cons], fun z hz => by
        rcases List.mem_cons.1 hz with rfl | hz
        · exact v2
        · exact h2 z hz⟩
  obtain ⟨l, rfl, hl⟩ := this els he
  refine ⟨l, rfl, ?_, hl⟩
  rw [List.length_map] at hn
  exact Nat.le_trans hn (by decide)
end Go.Proofs.Ytchmeldlpoimnaa
