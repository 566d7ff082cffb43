/-
  Great pages; numbers in bytes.
-/
import Derived.Test.YtchmeldlpoimnaaAmN2
namespace Go.Proofs.Ytchmeldlpoimnaa
open Go.RowKit Am IntWalk
set_option maxRecDepth 100000
set_option linter.unusedVariables false

def bigC (c : Cel) : Bool := decide (1024 < c.key.length) || decide (1024 < c.loc.length)
def greatB (n : Nod) : Bool := decide (400 < n.cells.length) || decide (4096 < n.data.length) || n.cells.any bigC
theorem any_at {l : List Cel} {i : Nat} (hi : i < l.length) (h : bigC (ndAt l i) = true) : l.any bigC = true := by
  rw [List.any_eq_true]
  refine ⟨ndAt l i, ?_, h⟩
  simp [ndAt, hi]
theorem any_none {l : List Cel} (h : ∀ j, j < l.length → bigC (ndAt l j) = false) : l.any bigC = false := by
  rw [List.any_eq_false]
  intro v hv
  obtain ⟨j, hj, rfl⟩ := List.mem_iff_getElem.1 hv
  have := h j hj
  simpa [ndAt, hj] using this

theorem great_loop (n : Nod) (hn : n.cells.length ≤ 400) (hd : n.data.length ≤ 4096) : WK Try.prog 0 (stackAt grC 0) (grS n 0).den
      (fun s => ∃ r objs' c, finish (Env.of Try.prog) true 0 (Try.f30.results.toList) s.R s.O = some (r, objs', c) ∧ (∀ b ∈ c, b = true) ∧ r = .d (.bool (greatB n)) ∧ objs' = []) := by
  have ok := cfT_ok tnB_ok
  refine WK.rec' (fun i => grS n i) (fun i => i ≤ n.cells.length ∧ ∀ j, j < i → bigC (ndAt n.cells j) = false) (fun i => n.cells.length - i) ?_ 0 ⟨by omega, fun j h => by omega⟩
  rintro i ⟨hi, hb⟩ ih
  obtain ⟨c, hcd⟩ : ∃ c, ndAt n.cells i = c := ⟨_, rfl⟩
  have hc : i < n.cells.length → (n.cells.map cD).getD i .nilp = cD c := fun h => hcd ▸ getD_cD _ _ h
  have hml : (n.cells.map cD).length = n.cells.length := List.length_map ..
  cases h19 : (decide ((Nat.cast (R := Int) i) < (Nat.cast (R := Int) (List.map cD n.cells).length)) : Bool) with
  | true =>
    cases h26 : (decide (1024 < (Nat.cast (R := Int) (List.length c.key))) : Bool) with
    | true =>
      exact WK.fin ok 1000 0 [(20, .iptr (.agg [.str c.1, .int .i64 c.2, .str c.3, .int .i64 c.4]) 0), (32, .d (.int .i64 (Nat.cast (R := Int) (i + 1)))), (19, .d (.bool true)), (26, .d (.bool true))] [decide (0 ≤ (Nat.cast (R := Int) i) ∧ (Nat.cast (R := Int) i) < (Nat.cast (R := Int) (List.map cD n.cells).length))] [(.d (.bool (decide ((Nat.cast (R := Int) i) < (Nat.cast (R := Int) (List.map cD n.cells).length)))), .d (.bool true)), (.iptr ((List.map cD n.cells).getD (Nat.cast (R := Int) i).toNat .nilp) 0, .iptr (.agg [.str c.1, .int .i64 c.2, .str c.3, .int .i64 c.4]) 0), (.d (.bool (decide (1024 < (Nat.cast (R := Int) (List.length c.key))))), .d (.bool true))] rfl (by kernel_rfl : runEnd (cfT tnB) true _ 1000 0 _ _ (grS n i) = some (.d (.bool true), [], _, _)) ⟨(by first | rfl | exact decide_eq_true (by have := of_decide_eq_true h19; omega)), trivial⟩ ⟨le_bool h19, (by first | exact .of_eq (by rw [wrap_succ (by omega)]) | exact .of_eq (by rw [Int.toNat_natCast, hc (by simpa using h19)]; rfl)), le_bool h26, trivial⟩ ⟨by first | (have := any_at (i := i) (by simpa using h19) (by simp [bigC, hcd]; simp at *; omega); simp [greatB, this]; done) | (have := any_none (fun j hj => hb j (by simp at h19; omega)); simp [greatB, this]; omega), rfl⟩
    | false =>
      cases h31 : (decide (1024 < (Nat.cast (R := Int) (List.length c.loc))) : Bool) with
      | true =>
        exact WK.fin ok 1000 0 [(20, .iptr (.agg [.str c.1, .int .i64 c.2, .str c.3, .int .i64 c.4]) 0), (32, .d (.int .i64 (Nat.cast (R := Int) (i + 1)))), (19, .d (.bool true)), (26, .d (.bool false)), (31, .d (.bool true))] [decide (0 ≤ (Nat.cast (R := Int) i) ∧ (Nat.cast (R := Int) i) < (Nat.cast (R := Int) (List.map cD n.cells).length))] [(.d (.bool (decide ((Nat.cast (R := Int) i) < (Nat.cast (R := Int) (List.map cD n.cells).length)))), .d (.bool true)), (.iptr ((List.map cD n.cells).getD (Nat.cast (R := Int) i).toNat .nilp) 0, .iptr (.agg [.str c.1, .int .i64 c.2, .str c.3, .int .i64 c.4]) 0), (.d (.bool (decide (1024 < (Nat.cast (R := Int) (List.length c.key))))), .d (.bool false)), (.d (.bool (decide (1024 < (Nat.cast (R := Int) (List.length c.loc))))), .d (.bool true))] rfl (by kernel_rfl : runEnd (cfT tnB) true _ 1000 0 _ _ (grS n i) = some (.d (.bool true), [], _, _)) ⟨(by first | rfl | exact decide_eq_true (by have := of_decide_eq_true h19; omega)), trivial⟩ ⟨le_bool h19, (by first | exact .of_eq (by rw [wrap_succ (by omega)]) | exact .of_eq (by rw [Int.toNat_natCast, hc (by simpa using h19)]; rfl)), le_bool h26, le_bool h31, trivial⟩ ⟨by first | (have := any_at (i := i) (by simpa using h19) (by simp [bigC, hcd]; simp at *; omega); simp [greatB, this]; done) | (have := any_none (fun j hj => hb j (by simp at h19; omega)); simp [greatB, this]; omega), rfl⟩
      | false =>
        refine WK.segA ok 1000 0 [(20, .iptr (.agg [.str c.1, .int .i64 c.2, .str c.3, .int .i64 c.4]) 0), (32, .d (.int .i64 (Nat.cast (R := Int) (i + 1)))), (19, .d (.bool true)), (26, .d (.bool false)), (31, .d (.bool false))] [] [16, 17, 18] [decide (0 ≤ (Nat.cast (R := Int) i) ∧ (Nat.cast (R := Int) i) < (Nat.cast (R := Int) (List.map cD n.cells).length))] [(.d (.bool (decide ((Nat.cast (R := Int) i) < (Nat.cast (R := Int) (List.map cD n.cells).length)))), .d (.bool true)), (.iptr ((List.map cD n.cells).getD (Nat.cast (R := Int) i).toNat .nilp) 0, .iptr (.agg [.str c.1, .int .i64 c.2, .str c.3, .int .i64 c.4]) 0), (.d (.bool (decide (1024 < (Nat.cast (R := Int) (List.length c.key))))), .d (.bool false)), (.d (.bool (decide (1024 < (Nat.cast (R := Int) (List.length c.loc))))), .d (.bool false)), (.d (.int .i64 (IntKind.i64.wrap ((Nat.cast (R := Int) i) + 1))), .d (.int .i64 (Nat.cast (R := Int) (i + 1))))] rfl (by kernel_rfl : runSegA (cfT tnB) 1000 0 _ _ _ _ (grS n i) = some (stackAt grC 0, grS n (i + 1), _, _)) ⟨(by first | rfl | exact decide_eq_true (by have := of_decide_eq_true h19; omega)), trivial⟩ (by refine ⟨le_bool h19, ?_, le_bool h26, le_bool h31, ?_, trivial⟩ <;> (first | exact .of_eq (by rw [wrap_succ (by omega)]) | exact .of_eq (by rw [Int.toNat_natCast, hc (by simpa using h19)]; rfl))) ?_
        refine ih (i + 1) ⟨by have := of_decide_eq_true h19; omega, fun j hj => ?_⟩ (by have := of_decide_eq_true h19; omega)
        rcases Nat.lt_or_ge j i with h | h
        · exact hb j h
        · obtain rfl : j = i := by omega
          simp [bigC, hcd]
          simp at *
          omega
  | false =>
    exact WK.fin ok 1000 0 [(20, .iptr (.agg [.str c.1, .int .i64 c.2, .str c.3, .int .i64 c.4]) 0), (32, .d (.int .i64 (Nat.cast (R := Int) (i + 1)))), (19, .d (.bool false))] [] [(.d (.bool (decide ((Nat.cast (R := Int) i) < (Nat.cast (R := Int) (List.map cD n.cells).length)))), .d (.bool false))] rfl (by kernel_rfl : runEnd (cfT tnB) true _ 1000 0 _ _ (grS n i) = some (.d (.bool false), [], _, _)) trivial ⟨le_bool h19, trivial⟩ ⟨by first | (have := any_at (i := i) (by simpa using h19) (by simp [bigC, hcd]; simp at *; omega); simp [greatB, this]; done) | (have := any_none (fun j hj => hb j (by simp at h19; omega)); simp [greatB, this]; omega), rfl⟩

theorem great_c (n : Nod) : C Try.prog 30 [.d (nD n)] [] (fun r o => r = .d (.bool (greatB n)) ∧ o = []) := by
  have ok := cfT_ok tnB_ok
  refine C_of_run (fn := Try.f30) (body := grC) true (by kernel_rfl) (by kernel_rfl) (by kernel_rfl) ?_
  cases h9 : (decide (400 < (Nat.cast (R := Int) (List.map cD n.cells).length)) : Bool) with
  | true =>
    exact WK.fin ok 1000 0 [(9, .d (.bool true))] [] [(.d (.bool (decide (400 < (Nat.cast (R := Int) (List.map cD n.cells).length)))), .d (.bool true))] rfl (by kernel_rfl : runEnd (cfT tnB) true _ 1000 0 _ _ (ini 33 [.d (nD n)] []) = some (.d (.bool true), [], _, _)) trivial ⟨le_bool h9, trivial⟩ ⟨by simp at *; simp [greatB]; omega, rfl⟩
  | false =>
    cases h14 : (decide (4096 < (Nat.cast (R := Int) (List.length n.data))) : Bool) with
    | true =>
      exact WK.fin ok 1000 0 [(9, .d (.bool false)), (14, .d (.bool true))] [] [(.d (.bool (decide (400 < (Nat.cast (R := Int) (List.map cD n.cells).length)))), .d (.bool false)), (.d (.bool (decide (4096 < (Nat.cast (R := Int) (List.length n.data))))), .d (.bool true))] rfl (by kernel_rfl : runEnd (cfT tnB) true _ 1000 0 _ _ (ini 33 [.d (nD n)] []) = some (.d (.bool true), [], _, _)) trivial ⟨le_bool h9, le_bool h14, trivial⟩ ⟨by simp at *; simp [greatB]; omega, rfl⟩
    | false =>
      refine WK.segA ok 1000 0 [(9, .d (.bool false)), (14, .d (.bool false))] [] [16, 17, 18] [] [(.d (.bool (decide (400 < (Nat.cast (R := Int) (List.map cD n.cells).length)))), .d (.bool false)), (.d (.bool (decide (4096 < (Nat.cast (R := Int) (List.length n.data))))), .d (.bool false))] rfl (by kernel_rfl : runSegA (cfT tnB) 1000 0 _ _ _ _ (ini 33 [.d (nD n)] []) = some (stackAt grC 0, grS n 0, _, _)) trivial ⟨le_bool h9, le_bool h14, trivial⟩ ?_
      exact great_loop n (by simp at h9; omega) (by simp at h14; omega)

def bY (x : Int) : UInt8 := DV.byte (.int .u8 (IntKind.u8.wrap x))
def num2 (n : Int) : Bs := [bY (n.fdiv 256), bY (n.fdiv 1)]
def num4 (n : Int) : Bs := [bY (n.fdiv 16777216), bY (n.fdiv 65536), bY (n.fdiv 256), bY (n.fdiv 1)]
def numX (n m : Int) : Bs := if m = 2 then num2 n else num4 n
def numG : DV → DV → Option (DV × List Bool)
  | .int .i64 n, .int .i64 m => some (.str (numX n m), [decide (m = 2 ∨ m = 4)])
  | _, _ => none
theorem num_ent : EntOk Try.prog 103 (e2 numG) := by
  refine ent2 fun x x2 y c hg hc => ?_
  unfold numG at hg
  split at hg
  · rename_i n m
    simp only [Option.some.injEq, Prod.mk.injEq] at hg
    obtain ⟨rfl, rfl⟩ := hg
    have h0 : m = 2 ∨ m = 4 := by simpa using hc (decide (m = 2 ∨ m = 4)) (by simp)
    have ok := cfT_ok tnB_ok
    refine C_of_run (fn := Try.f103) (body := (Try.f103.body).getD .skip) true (by kernel_rfl) (by kernel_rfl) (by kernel_rfl) ?_
    rcases h0 with rfl | rfl
    · exact WK.fin ok 1000 10 [] [true, true, true, true, true, true, true, true, true] [] rfl (by kernel_rfl : runEnd (cfT tnB) true _ 1000 10 _ _ (ini 28 [.d (.int .i64 n), .d (.int .i64 2)] []) = some (.d (.str (num2 n)), [], _, _)) ⟨rfl, rfl, rfl, rfl, rfl, rfl, rfl, rfl, rfl, trivial⟩ trivial ⟨rfl, rfl⟩
    · exact WK.fin ok 1000 10 [] [true, true, true, true, true, true, true, true, true, true, true, true, true, true, true] [] rfl (by kernel_rfl : runEnd (cfT tnB) true _ 1000 10 _ _ (ini 28 [.d (.int .i64 n), .d (.int .i64 4)] []) = some (.d (.str (num4 n)), [], _, _)) ⟨rfl, rfl, rfl, rfl, rfl, rfl, rfl, rfl, rfl, rfl, rfl, rfl, rfl, rfl, rfl, trivial⟩ trivial ⟨rfl, rfl⟩
  · cases hg
noncomputable def tnC : List (Nat × Ent) := (103, e2 numG) :: tnB ++ tb
theorem ents_app {P : Program} {a b : List (Nat × Ent)} (h : EntsOk P a) (h' : EntsOk P b) : EntsOk P (a ++ b) := by
  induction h with
  | nil => exact h'
  | cons x _ ih => exact .cons x ih
theorem tnC_ok : EntsOk Try.prog tnC := .cons num_ent (ents_app tnB_ok tb_ok)
noncomputable def cfL (l : List (Nat × Ent)) : Cfg := { E := Env.of Try.prog, K := layer Try.prog (konOf l) (fun f => Nat.beq f 102) cok 200 5 2, byref := fun _ => false, callOk := cok }
theorem cfL_ok {l : List (Nat × Ent)} (h : EntsOk Try.prog l) : Ok Try.prog (cfL l) := ⟨⟨rfl, lay_ok l h _ _ _ _, fun _ h => h⟩, mixed⟩
theorem capOk {a b : Nat} (hb : b = 1) (h : a ≤ 100000000) : decide (a * b ≤ 2 ^ 38) = true := by
  rw [hb]; exact decide_eq_true (by omega)
end Go.Proofs.Ytchmeldlpoimnaa
