/-
  A law's arguments as changes.
-/
import Derived.Test.YtljfolepmkcjlaaCB2
import Derived.Test.YtljfolepmkcjlaaRows
namespace Go.Proofs.Ytljfolepmkcjlaa
open Go.RowKit Plain Am
set_option maxRecDepth 100000

theorem und_row : Try.prog.underlying 44 = some (.slice 49) := by kernel_rfl
theorem agg_val : isAggT Try.prog 49 = true := by kernel_rfl
theorem cells_val : Try.prog.cellsOf 49 = 3 := by kernel_rfl

theorem val_ty {xs : List DV} (h : Ty Try.prog 49 xs) : ∃ v, .agg xs = vD v ∧ v.wf := by
  have hu : ∃ fs, Try.prog.underlying 49 = some (.struct fs) ∧ (fs[0]?.map fun f => (f.type, f.offset)) = some (5, 0) ∧ (fs[1]?.map fun f => (f.type, f.offset)) = some (2, 1) ∧ (fs[2]?.map fun f => (f.type, f.offset)) = some (9, 2) :=
    ⟨_, Try.underlying49, rfl, rfl, rfl⟩
  obtain ⟨fs, hu, e0, e1, e2⟩ := hu
  obtain ⟨hl, hf⟩ := h.struct_inv hu
  rw [cells_val] at hl
  match xs, hl with
  | [a, b, c], _ =>
    simp only [Option.map_eq_some_iff, Prod.mk.injEq] at e0 e1 e2
    obtain ⟨f0, h0, t0, o0⟩ := e0
    obtain ⟨f1, h1, t1, o1⟩ := e1
    obtain ⟨f2, h2, t2, o2⟩ := e2
    have k0 := hf 0 f0 h0
    have k1 := hf 1 f1 h1
    have k2 := hf 2 f2 h2
    rw [t0, o0, (by kernel_rfl : Try.prog.cellsOf 5 = 1)] at k0
    rw [t1, o1, (by kernel_rfl : Try.prog.cellsOf 2 = 1)] at k1
    rw [t2, o2, (by kernel_rfl : Try.prog.cellsOf 9 = 1)] at k2
    obtain ⟨k, q0, w0⟩ := k0.int_inv (k := .u8) (by kernel_rfl)
    obtain ⟨n, q1, w1⟩ := k1.int_inv (k := .i64) (by kernel_rfl)
    obtain ⟨s, q2, _⟩ := k2.str_inv (by kernel_rfl)
    simp at q0 q1 q2
    subst q0 q1 q2
    refine ⟨⟨k, n, s⟩, rfl, ?_⟩
    simp [Lit.wf, IntKind.min, IntKind.max, IntKind.signed, IntKind.bits] at w0 w1
    exact ⟨w0.1, w0.2, w1.1, w1.2⟩

theorem row_ty {xs : List DV} (h : Ty Try.prog 44 xs) : ∃ l : List Val, xs = [.lst 3 (l.map vD) false] ∧ (∀ v ∈ l, v.wf) := by
  obtain ⟨els, rfl, _, he⟩ := h.lst_inv und_row
  rw [cells_val]
  have : ∀ els : List DV, (∀ x ∈ els, x = elOf (isAggT Try.prog 49) x.cells ∧ x.cells.length = Try.prog.cellsOf 49 ∧ Ty Try.prog 49 x.cells) → ∃ l : List Val, els = l.map vD ∧ ∀ v ∈ l, v.wf := by
    intro els
    induction els with
    | nil => intro _; exact ⟨[], rfl, by simp⟩
    | cons x r ih =>
      intro h
      obtain ⟨l, h1, h2⟩ := ih (fun y hy => h y (by simp [hy]))
      obtain ⟨g1, _, g3⟩ := h x (by simp)
      obtain ⟨v, v1, v2⟩ := val_ty g3
      rw [agg_val] at g1
      refine ⟨v :: l, by rw [g1, h1]; simp only [elOf, cond_true, v1, List.map_cons], fun u hu => ?_⟩
      rcases List.mem_cons.1 hu with rfl | hu
      · exact v2
      · exact h2 u hu
  obtain ⟨l, rfl, h2⟩ := this els he
  exact ⟨l, rfl, h2⟩

theorem und_chg : Try.prog.underlying 22 = some (.slice 46) := by kernel_rfl
theorem agg_chg : isAggT Try.prog 46 = true := by kernel_rfl
theorem cells_chg : Try.prog.cellsOf 46 = 4 := by kernel_rfl
theorem chg1_ty {xs : List DV} (h : Ty Try.prog 46 xs) : ∃ v : Chg, .agg xs = chD v ∧ v.wf := by
  have hu : ∃ fs, Try.prog.underlying 46 = some (.struct fs) ∧ (fs[0]?.map fun f => (f.type, f.offset)) = some (9, 0) ∧ (fs[1]?.map fun f => (f.type, f.offset)) = some (44, 1) ∧ (fs[2]?.map fun f => (f.type, f.offset)) = some (44, 2) ∧ (fs[3]?.map fun f => (f.type, f.offset)) = some (44, 3) :=
    ⟨_, Try.underlying46, rfl, rfl, rfl, rfl⟩
  obtain ⟨fs, hu, e0, e1, e2, e3⟩ := hu
  obtain ⟨hl, hf⟩ := h.struct_inv hu
  rw [cells_chg] at hl
  match xs, hl with
  | [a, b, c, d], _ =>
    simp only [Option.map_eq_some_iff, Prod.mk.injEq] at e0 e1 e2 e3
    obtain ⟨f0, h0, t0, o0⟩ := e0
    obtain ⟨f1, h1, t1, o1⟩ := e1
    obtain ⟨f2, h2, t2, o2⟩ := e2
    obtain ⟨f3, h3, t3, o3⟩ := e3
    have k0 := hf 0 f0 h0
    have k1 := hf 1 f1 h1
    have k2 := hf 2 f2 h2
    have k3 := hf 3 f3 h3
    rw [t0, o0, (by kernel_rfl : Try.prog.cellsOf 9 = 1)] at k0
    rw [t1, o1, (by kernel_rfl : Try.prog.cellsOf 44 = 1)] at k1
    rw [t2, o2, (by kernel_rfl : Try.prog.cellsOf 44 = 1)] at k2
    rw [t3, o3, (by kernel_rfl : Try.prog.cellsOf 44 = 1)] at k3
    obtain ⟨s, q0, _⟩ := k0.str_inv (by kernel_rfl)
    obtain ⟨l1, q1, w1⟩ := row_ty k1
    obtain ⟨l2, q2, w2⟩ := row_ty k2
    obtain ⟨l3, q3, w3⟩ := row_ty k3
    simp at q0 q1 q2 q3
    subst q0 q1 q2 q3
    exact ⟨⟨s, l1, l2, l3⟩, rfl, w1, w2, w3⟩
theorem chg_ty {xs : List DV} (h : Ty Try.prog 22 xs) : ∃ l : List Chg, xs = [chL l] ∧ l.length ≤ 9223372036854775807 ∧ ∀ x ∈ l, x.wf := by
  obtain ⟨els, rfl, hn, he⟩ := h.lst_inv und_chg
  rw [cells_chg]
  have : ∀ els : List DV, (∀ x ∈ els, x = elOf (isAggT Try.prog 46) x.cells ∧ x.cells.length = Try.prog.cellsOf 46 ∧ Ty Try.prog 46 x.cells) → ∃ l : List Chg, els = l.map chD ∧ ∀ x ∈ l, x.wf := by
    intro els
    induction els with
    | nil => intro _; exact ⟨[], rfl, by simp⟩
    | cons x r ih =>
      intro h
      obtain ⟨l, h1, h2⟩ := ih (fun y hy => h y (by simp [hy]))
      obtain ⟨g1, _, g3⟩ := h x (by simp)
      obtain ⟨v, v1, v2⟩ := chg1_ty g3
      rw [agg_chg] at g1
      exact ⟨v :: l, by rw [g1, h1]; simp only [elOf, cond_true, v1, List.map_cons], fun z hz => by
        rcases List.mem_cons.1 hz with rfl | hz
        · exact v2
        · exact h2 z hz⟩
  obtain ⟨l, rfl, hl⟩ := this els he
  refine ⟨l, rfl, ?_, hl⟩
  rw [List.length_map] at hn
  exact Nat.le_trans hn (by decide)
end Go.Proofs.Ytljfolepmkcjlaa
