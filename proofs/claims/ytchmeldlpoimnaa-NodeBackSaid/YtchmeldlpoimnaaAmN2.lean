/-
  Which pages may be; which are great.
-/
import Derived.Test.YtchmeldlpoimnaaAmN
namespace Go.Proofs.Ytchmeldlpoimnaa
open Go.RowKit Am IntWalk
set_option maxRecDepth 100000
set_option linter.unusedVariables false

theorem wrap_succ {i : Nat} (h : i ≤ 1000000) : IntKind.i64.wrap ((i : Int) + 1) = ((i + 1 : Nat) : Int) := by rw [i64_in _ (by omega)]; omega
theorem wrap_pred {i : Nat} (h : i ≤ 1000000) (h0 : 0 < i) : IntKind.i64.wrap ((i : Int) - 1) = ((i - 1 : Nat) : Int) := by rw [i64_in _ (by omega)]; omega

def ndAt (l : List Cel) (i : Nat) : Cel := l.getD i ⟨[], 0, [], 0⟩
theorem getD_cD (l : List Cel) (i : Nat) (h : i < l.length) : (l.map cD).getD i .nilp = cD (ndAt l i) := by simp [ndAt, h]
def badAt (n : Nod) (i : Nat) : Bool := !cellB n.kind (ndAt n.cells i) || (decide (0 < i) && (Op.bytesLess (ndAt n.cells i).key (ndAt n.cells (i - 1)).key || (ndAt n.cells i).key == (ndAt n.cells (i - 1)).key))
def cellsB (n : Nod) : Bool := (List.range n.cells.length).all fun i => !badAt n i
theorem cellsB_t {n : Nod} (h : ∀ j, j < n.cells.length → badAt n j = false) : cellsB n = true := by
  simp only [cellsB, List.all_eq_true, List.mem_range]
  intro j hj; rw [h j hj]; rfl
theorem cellsB_f {n : Nod} {i : Nat} (hi : i < n.cells.length) (h : badAt n i = true) : cellsB n = false := by
  cases hb : cellsB n with
  | false => rfl
  | true =>
    simp only [cellsB, List.all_eq_true, List.mem_range] at hb
    have := hb i hi
    rw [h] at this; cases this
def headB (n : Nod) : Bool :=
  if n.kind == 1 then n.first == 0 && n.data == [] else
  if n.kind == 2 then pageB n.first 1 && n.data == [] && decide (n.cells ≠ []) else
  if n.kind == 3 then pageB n.first 0 && decide (1 ≤ n.data.length) && decide (n.data.length ≤ 505) && decide (n.cells = []) else
  if n.kind == 4 then pageB n.first 0 && n.data == [] && decide (n.cells = []) else false
def mayB (n : Nod) : Bool := headB n && (if n.kind == 1 || n.kind == 2 then cellsB n else true)

noncomputable abbrev mayC : Code := (Try.f63.body).getD .skip
def mayS (n : Nod) (i : Nat) : ESt := { n := 103, m := 0, regs := T.mk [(1, .ptr 72 0), (74, .d (.lst 4 (n.cells.map cD) false)), (75, .d (.int .i64 ((n.cells.map cD).length : Int))), (76, .d (.int .i64 (i : Int)))], objs := T.mk [(72, .box 39 [.d (.int .u8 n.kind), .d (.int .i64 n.first), .d (.lst 4 (n.cells.map cD) false), .d (.str n.data)])] }
noncomputable abbrev grC : Code := (Try.f30.body).getD .skip
def grS (n : Nod) (i : Nat) : ESt := { n := 33, m := 0, regs := T.mk [(16, .d (.lst 4 (n.cells.map cD) false)), (17, .d (.int .i64 ((n.cells.map cD).length : Int))), (18, .d (.int .i64 (i : Int)))], objs := T.mk [] }

theorem may_loop (n : Nod) (hn : n.cells.length ≤ 1000000) (hd : mayB n = cellsB n) : WK Try.prog 0 (stackAt mayC 0) (mayS n 0).den
      (fun s => ∃ r objs' c, finish (Env.of Try.prog) true 0 (Try.f63.results.toList) s.R s.O = some (r, objs', c) ∧ (∀ b ∈ c, b = true) ∧ r = .d (.bool (mayB n)) ∧ objs' = []) := by
  have ok := cfT_ok tnB_ok
  refine WK.rec' (fun i => mayS n i) (fun i => i ≤ n.cells.length ∧ ∀ j, j < i → badAt n j = false) (fun i => n.cells.length - i) ?_ 0 ⟨by omega, fun j h => by omega⟩
  rintro i ⟨hi, hb⟩ ih
  obtain ⟨c, hcd⟩ : ∃ c, ndAt n.cells i = c := ⟨_, rfl⟩
  obtain ⟨p, hpd⟩ : ∃ p, ndAt n.cells (i - 1) = p := ⟨_, rfl⟩
  have hc : i < n.cells.length → (n.cells.map cD).getD i .nilp = cD c := fun h => hcd ▸ getD_cD _ _ h
  have hp : i < n.cells.length → (n.cells.map cD).getD (i - 1) .nilp = cD p := fun h => hpd ▸ getD_cD _ _ (by omega)
  have hml : (n.cells.map cD).length = n.cells.length := List.length_map ..
  have hsame : ∀ i' : Nat, i' = i → (((i' : Int) < ((n.cells.map cD).length : Int)) ↔ i' < n.cells.length) := fun i' _ => by rw [hml]; omega
  cases h77 : (decide ((Nat.cast (R := Int) i) < (Nat.cast (R := Int) (List.map cD n.cells).length)) : Bool) with
  | true =>
    cases h86 : (!cellB n.1 { key := c.1, size := c.2, loc := c.3, page := c.4 } : Bool) with
    | true =>
      exact WK.fin ok 1000 0 [(79, .iptr (.agg [.str c.1, .int .i64 c.2, .str c.3, .int .i64 c.4]) 0), (96, .iptr (.agg [.str p.1, .int .i64 p.2, .str p.3, .int .i64 p.4]) 0), (102, .d (.int .i64 (Nat.cast (R := Int) (i + 1)))), (77, .d (.bool true)), (86, .d (.bool true))] [decide (0 ≤ (Nat.cast (R := Int) i) ∧ (Nat.cast (R := Int) i) < (Nat.cast (R := Int) (List.map cD n.cells).length)), true] [(.d (.bool (decide ((Nat.cast (R := Int) i) < (Nat.cast (R := Int) (List.map cD n.cells).length)))), .d (.bool true)), (.iptr ((List.map cD n.cells).getD (Nat.cast (R := Int) i).toNat .nilp) 0, .iptr (.agg [.str c.1, .int .i64 c.2, .str c.3, .int .i64 c.4]) 0), (.d (.bool !cellB n.1 { key := c.1, size := c.2, loc := c.3, page := c.4 }), .d (.bool true))] rfl (by kernel_rfl : runEnd (cfT tnB) true _ 1000 0 _ _ (mayS n i) = some (.d (.bool false), [], _, _)) (by refine ⟨?_, ?_, trivial⟩ <;> (first | rfl | exact decide_eq_true (by have := of_decide_eq_true h77; omega) | (rw [wrap_pred (by omega) (by simpa using h89)]; exact decide_eq_true (by have := of_decide_eq_true h77; omega)))) ⟨le_bool h77, (by first | exact .of_eq (by rw [wrap_succ (by omega)]) | exact .of_eq (by rw [wrap_pred (by omega) (by simpa using h89), Int.toNat_natCast, hp (by simpa using h77)]; rfl) | exact .of_eq (by rw [Int.toNat_natCast, hc (by simpa using h77)]; rfl)), le_bool h86, trivial⟩ ⟨by rw [hd]; first | rw [cellsB_f (i := i) (by simpa using h77) (by simp [badAt, hcd, hpd]; simp at *; simp [*])] | rw [cellsB_t (fun j hj => hb j (by simp at h77; omega))], rfl⟩
    | false =>
      cases h89 : (decide (0 < (Nat.cast (R := Int) i)) : Bool) with
      | true =>
        cases h101 : (Go.Op.bytesLess c.key p.key || c.1 == p.1 : Bool) with
        | true =>
          exact WK.fin ok 1000 0 [(79, .iptr (.agg [.str c.1, .int .i64 c.2, .str c.3, .int .i64 c.4]) 0), (96, .iptr (.agg [.str p.1, .int .i64 p.2, .str p.3, .int .i64 p.4]) 0), (102, .d (.int .i64 (Nat.cast (R := Int) (i + 1)))), (77, .d (.bool true)), (86, .d (.bool false)), (89, .d (.bool true)), (101, .d (.bool true))] [decide (0 ≤ (Nat.cast (R := Int) i) ∧ (Nat.cast (R := Int) i) < (Nat.cast (R := Int) (List.map cD n.cells).length)), true, decide (0 ≤ IntKind.i64.wrap ((Nat.cast (R := Int) i) - 1) ∧ IntKind.i64.wrap ((Nat.cast (R := Int) i) - 1) < (Nat.cast (R := Int) (List.map cD n.cells).length))] [(.d (.bool (decide ((Nat.cast (R := Int) i) < (Nat.cast (R := Int) (List.map cD n.cells).length)))), .d (.bool true)), (.iptr ((List.map cD n.cells).getD (Nat.cast (R := Int) i).toNat .nilp) 0, .iptr (.agg [.str c.1, .int .i64 c.2, .str c.3, .int .i64 c.4]) 0), (.d (.bool !cellB n.1 { key := c.1, size := c.2, loc := c.3, page := c.4 }), .d (.bool false)), (.d (.bool (decide (0 < (Nat.cast (R := Int) i)))), .d (.bool true)), (.iptr ((List.map cD n.cells).getD (IntKind.i64.wrap ((Nat.cast (R := Int) i) - 1)).toNat .nilp) 0, .iptr (.agg [.str p.1, .int .i64 p.2, .str p.3, .int .i64 p.4]) 0), (.d (.bool (Go.Op.bytesLess c.key p.key || c.1 == p.1)), .d (.bool true))] rfl (by kernel_rfl : runEnd (cfT tnB) true _ 1000 0 _ _ (mayS n i) = some (.d (.bool false), [], _, _)) (by refine ⟨?_, ?_, ?_, trivial⟩ <;> (first | rfl | exact decide_eq_true (by have := of_decide_eq_true h77; omega) | (rw [wrap_pred (by omega) (by simpa using h89)]; exact decide_eq_true (by have := of_decide_eq_true h77; omega)))) (by refine ⟨le_bool h77, ?_, le_bool h86, le_bool h89, ?_, le_bool h101, trivial⟩ <;> (first | exact .of_eq (by rw [wrap_succ (by omega)]) | exact .of_eq (by rw [wrap_pred (by omega) (by simpa using h89), Int.toNat_natCast, hp (by simpa using h77)]; rfl) | exact .of_eq (by rw [Int.toNat_natCast, hc (by simpa using h77)]; rfl))) ⟨by rw [hd]; first | rw [cellsB_f (i := i) (by simpa using h77) (by simp [badAt, hcd, hpd]; simp at *; simp [*])] | rw [cellsB_t (fun j hj => hb j (by simp at h77; omega))], rfl⟩
        | false =>
          refine WK.seg ok 1000 0 [(79, .iptr (.agg [.str c.1, .int .i64 c.2, .str c.3, .int .i64 c.4]) 0), (96, .iptr (.agg [.str p.1, .int .i64 p.2, .str p.3, .int .i64 p.4]) 0), (102, .d (.int .i64 (Nat.cast (R := Int) (i + 1)))), (77, .d (.bool true)), (86, .d (.bool false)), (89, .d (.bool true)), (101, .d (.bool false))] {live := [1,74,75,76], olds := [72], nws := [72]} [decide (0 ≤ (Nat.cast (R := Int) i) ∧ (Nat.cast (R := Int) i) < (Nat.cast (R := Int) (List.map cD n.cells).length)), true, decide (0 ≤ IntKind.i64.wrap ((Nat.cast (R := Int) i) - 1) ∧ IntKind.i64.wrap ((Nat.cast (R := Int) i) - 1) < (Nat.cast (R := Int) (List.map cD n.cells).length))] [(.d (.bool (decide ((Nat.cast (R := Int) i) < (Nat.cast (R := Int) (List.map cD n.cells).length)))), .d (.bool true)), (.iptr ((List.map cD n.cells).getD (Nat.cast (R := Int) i).toNat .nilp) 0, .iptr (.agg [.str c.1, .int .i64 c.2, .str c.3, .int .i64 c.4]) 0), (.d (.bool !cellB n.1 { key := c.1, size := c.2, loc := c.3, page := c.4 }), .d (.bool false)), (.d (.bool (decide (0 < (Nat.cast (R := Int) i)))), .d (.bool true)), (.iptr ((List.map cD n.cells).getD (IntKind.i64.wrap ((Nat.cast (R := Int) i) - 1)).toNat .nilp) 0, .iptr (.agg [.str p.1, .int .i64 p.2, .str p.3, .int .i64 p.4]) 0), (.d (.bool (Go.Op.bytesLess c.key p.key || c.1 == p.1)), .d (.bool false)), (.d (.int .i64 (IntKind.i64.wrap ((Nat.cast (R := Int) i) + 1))), .d (.int .i64 (Nat.cast (R := Int) (i + 1))))] rfl (by kernel_rfl : runSeg (cfT tnB) 1000 0 _ _ _ (mayS n i) = some (stackAt mayC 0, mayS n (i + 1), _, _)) (by refine ⟨?_, ?_, ?_, trivial⟩ <;> (first | rfl | exact decide_eq_true (by have := of_decide_eq_true h77; omega) | (rw [wrap_pred (by omega) (by simpa using h89)]; exact decide_eq_true (by have := of_decide_eq_true h77; omega)))) (by refine ⟨le_bool h77, ?_, le_bool h86, le_bool h89, ?_, le_bool h101, ?_, trivial⟩ <;> (first | exact .of_eq (by rw [wrap_succ (by omega)]) | exact .of_eq (by rw [wrap_pred (by omega) (by simpa using h89), Int.toNat_natCast, hp (by simpa using h77)]; rfl) | exact .of_eq (by rw [Int.toNat_natCast, hc (by simpa using h77)]; rfl))) ?_
          refine ih (i + 1) ⟨by have := of_decide_eq_true h77; omega, fun j hj => ?_⟩ (by have := of_decide_eq_true h77; omega)
          rcases Nat.lt_or_ge j i with h | h
          · exact hb j h
          · obtain rfl : j = i := by omega
            simp [badAt, hcd, hpd]
            simp at *
            simp [*]
      | false =>
        refine WK.seg ok 1000 0 [(79, .iptr (.agg [.str c.1, .int .i64 c.2, .str c.3, .int .i64 c.4]) 0), (96, .iptr (.agg [.str p.1, .int .i64 p.2, .str p.3, .int .i64 p.4]) 0), (102, .d (.int .i64 (Nat.cast (R := Int) (i + 1)))), (77, .d (.bool true)), (86, .d (.bool false)), (89, .d (.bool false))] {live := [1,74,75,76], olds := [72], nws := [72]} [decide (0 ≤ (Nat.cast (R := Int) i) ∧ (Nat.cast (R := Int) i) < (Nat.cast (R := Int) (List.map cD n.cells).length)), true] [(.d (.bool (decide ((Nat.cast (R := Int) i) < (Nat.cast (R := Int) (List.map cD n.cells).length)))), .d (.bool true)), (.iptr ((List.map cD n.cells).getD (Nat.cast (R := Int) i).toNat .nilp) 0, .iptr (.agg [.str c.1, .int .i64 c.2, .str c.3, .int .i64 c.4]) 0), (.d (.bool !cellB n.1 { key := c.1, size := c.2, loc := c.3, page := c.4 }), .d (.bool false)), (.d (.bool (decide (0 < (Nat.cast (R := Int) i)))), .d (.bool false)), (.d (.int .i64 (IntKind.i64.wrap ((Nat.cast (R := Int) i) + 1))), .d (.int .i64 (Nat.cast (R := Int) (i + 1))))] rfl (by kernel_rfl : runSeg (cfT tnB) 1000 0 _ _ _ (mayS n i) = some (stackAt mayC 0, mayS n (i + 1), _, _)) (by refine ⟨?_, ?_, trivial⟩ <;> (first | rfl | exact decide_eq_true (by have := of_decide_eq_true h77; omega) | (rw [wrap_pred (by omega) (by simpa using h89)]; exact decide_eq_true (by have := of_decide_eq_true h77; omega)))) (by refine ⟨le_bool h77, ?_, le_bool h86, le_bool h89, ?_, trivial⟩ <;> (first | exact .of_eq (by rw [wrap_succ (by omega)]) | exact .of_eq (by rw [wrap_pred (by omega) (by simpa using h89), Int.toNat_natCast, hp (by simpa using h77)]; rfl) | exact .of_eq (by rw [Int.toNat_natCast, hc (by simpa using h77)]; rfl))) ?_
        refine ih (i + 1) ⟨by have := of_decide_eq_true h77; omega, fun j hj => ?_⟩ (by have := of_decide_eq_true h77; omega)
        rcases Nat.lt_or_ge j i with h | h
        · exact hb j h
        · obtain rfl : j = i := by omega
          simp [badAt, hcd, hpd]
          simp at *
          simp [*]
  | false =>
    exact WK.fin ok 1000 0 [(79, .iptr (.agg [.str c.1, .int .i64 c.2, .str c.3, .int .i64 c.4]) 0), (96, .iptr (.agg [.str p.1, .int .i64 p.2, .str p.3, .int .i64 p.4]) 0), (102, .d (.int .i64 (Nat.cast (R := Int) (i + 1)))), (77, .d (.bool false))] [] [(.d (.bool (decide ((Nat.cast (R := Int) i) < (Nat.cast (R := Int) (List.map cD n.cells).length)))), .d (.bool false))] rfl (by kernel_rfl : runEnd (cfT tnB) true _ 1000 0 _ _ (mayS n i) = some (.d (.bool true), [], _, _)) trivial ⟨le_bool h77, trivial⟩ ⟨by rw [hd]; first | rw [cellsB_f (i := i) (by simpa using h77) (by simp [badAt, hcd, hpd]; simp at *; simp [*])] | rw [cellsB_t (fun j hj => hb j (by simp at h77; omega))], rfl⟩

theorem may_c (n : Nod) (hn : n.cells.length ≤ 1000000) : C Try.prog 63 [.d (nD n)] [] (fun r o => r = .d (.bool (mayB n)) ∧ o = []) := by
  have ok := cfT_ok tnB_ok
  refine C_of_run (fn := Try.f63) (body := mayC) true (by kernel_rfl) (by kernel_rfl) (by kernel_rfl) ?_
  have hle : n.cells = [] ↔ n.cells.length = 0 := List.length_eq_zero_iff.symm
  cases h7 : (n.1 == 1 : Bool) with
  | true =>
    cases h12 : (n.2 != 0 : Bool) with
    | true =>
      exact WK.fin ok 1000 0 [(7, .d (.bool true)), (12, .d (.bool true))] [] [(.d (.bool (n.1 == 1)), .d (.bool true)), (.d (.bool (n.2 != 0)), .d (.bool true))] rfl (by kernel_rfl : runEnd (cfT tnB) true _ 1000 0 _ _ (ini 103 [.d (nD n)] []) = some (.d (.bool false), [], _, _)) trivial ⟨le_bool h7, le_bool h12, trivial⟩ ⟨by simp at *; simp [mayB, headB, *] <;> (cases n.cells <;> simp <;> omega), rfl⟩
    | false =>
      cases h16 : (!n.4 == [] : Bool) with
      | true =>
        exact WK.fin ok 1000 0 [(7, .d (.bool true)), (12, .d (.bool false)), (16, .d (.bool true))] [] [(.d (.bool (n.1 == 1)), .d (.bool true)), (.d (.bool (n.2 != 0)), .d (.bool false)), (.d (.bool !n.4 == []), .d (.bool true))] rfl (by kernel_rfl : runEnd (cfT tnB) true _ 1000 0 _ _ (ini 103 [.d (nD n)] []) = some (.d (.bool false), [], _, _)) trivial ⟨le_bool h7, le_bool h12, le_bool h16, trivial⟩ ⟨by simp at *; simp [mayB, headB, *] <;> (cases n.cells <;> simp <;> omega), rfl⟩
      | false =>
        refine WK.seg ok 1000 0 [(7, .d (.bool true)), (12, .d (.bool false)), (16, .d (.bool false))] {live := [1,74,75,76], olds := [72], nws := [72]} [] [(.d (.bool (n.1 == 1)), .d (.bool true)), (.d (.bool (n.2 != 0)), .d (.bool false)), (.d (.bool !n.4 == []), .d (.bool false))] rfl (by kernel_rfl : runSeg (cfT tnB) 1000 0 _ _ _ (ini 103 [.d (nD n)] []) = some (stackAt mayC 0, mayS n 0, _, _)) trivial ⟨le_bool h7, le_bool h12, le_bool h16, trivial⟩ ?_
        exact may_loop n hn (by simp at *; simp [mayB, headB, *])
  | false =>
    cases h17 : (n.1 == 2 : Bool) with
    | true =>
      cases h23 : (!pageB n.2 (1) : Bool) with
      | true =>
        exact WK.fin ok 1000 0 [(7, .d (.bool false)), (17, .d (.bool true)), (23, .d (.bool true))] [] [(.d (.bool (n.1 == 1)), .d (.bool false)), (.d (.bool (n.1 == 2)), .d (.bool true)), (.d (.bool !pageB n.2 (1)), .d (.bool true))] rfl (by kernel_rfl : runEnd (cfT tnB) true _ 1000 0 _ _ (ini 103 [.d (nD n)] []) = some (.d (.bool false), [], _, _)) trivial ⟨le_bool h7, le_bool h17, le_bool h23, trivial⟩ ⟨by simp at *; simp [mayB, headB, *] <;> (cases n.cells <;> simp <;> omega), rfl⟩
      | false =>
        cases h28 : (!n.4 == [] : Bool) with
        | true =>
          exact WK.fin ok 1000 0 [(7, .d (.bool false)), (17, .d (.bool true)), (23, .d (.bool false)), (28, .d (.bool true))] [] [(.d (.bool (n.1 == 1)), .d (.bool false)), (.d (.bool (n.1 == 2)), .d (.bool true)), (.d (.bool !pageB n.2 (1)), .d (.bool false)), (.d (.bool !n.4 == []), .d (.bool true))] rfl (by kernel_rfl : runEnd (cfT tnB) true _ 1000 0 _ _ (ini 103 [.d (nD n)] []) = some (.d (.bool false), [], _, _)) trivial ⟨le_bool h7, le_bool h17, le_bool h23, le_bool h28, trivial⟩ ⟨by simp at *; simp [mayB, headB, *] <;> (cases n.cells <;> simp <;> omega), rfl⟩
        | false =>
          cases h33 : ((Nat.cast (R := Int) (List.map cD n.3).length) == 0 : Bool) with
          | true =>
            exact WK.fin ok 1000 0 [(7, .d (.bool false)), (17, .d (.bool true)), (23, .d (.bool false)), (28, .d (.bool false)), (33, .d (.bool true))] [] [(.d (.bool (n.1 == 1)), .d (.bool false)), (.d (.bool (n.1 == 2)), .d (.bool true)), (.d (.bool !pageB n.2 (1)), .d (.bool false)), (.d (.bool !n.4 == []), .d (.bool false)), (.d (.bool ((Nat.cast (R := Int) (List.map cD n.3).length) == 0)), .d (.bool true))] rfl (by kernel_rfl : runEnd (cfT tnB) true _ 1000 0 _ _ (ini 103 [.d (nD n)] []) = some (.d (.bool false), [], _, _)) trivial ⟨le_bool h7, le_bool h17, le_bool h23, le_bool h28, le_bool h33, trivial⟩ ⟨by simp at *; simp [mayB, headB, *] <;> (cases n.cells <;> simp <;> omega), rfl⟩
          | false =>
            refine WK.seg ok 1000 0 [(7, .d (.bool false)), (17, .d (.bool true)), (23, .d (.bool false)), (28, .d (.bool false)), (33, .d (.bool false))] {live := [1,74,75,76], olds := [72], nws := [72]} [] [(.d (.bool (n.1 == 1)), .d (.bool false)), (.d (.bool (n.1 == 2)), .d (.bool true)), (.d (.bool !pageB n.2 (1)), .d (.bool false)), (.d (.bool !n.4 == []), .d (.bool false)), (.d (.bool ((Nat.cast (R := Int) (List.map cD n.3).length) == 0)), .d (.bool false))] rfl (by kernel_rfl : runSeg (cfT tnB) 1000 0 _ _ _ (ini 103 [.d (nD n)] []) = some (stackAt mayC 0, mayS n 0, _, _)) trivial ⟨le_bool h7, le_bool h17, le_bool h23, le_bool h28, le_bool h33, trivial⟩ ?_
            exact may_loop n hn (by simp at *; simp [mayB, headB, *])
    | false =>
      cases h34 : (n.1 == 3 : Bool) with
      | true =>
        cases h39 : (pageB n.2 (0) : Bool) with
        | true =>
          cases h45 : (decide (1 ≤ (Nat.cast (R := Int) (List.length n.data))) : Bool) with
          | true =>
            cases h51 : (decide ((Nat.cast (R := Int) (List.length n.data)) ≤ 505) : Bool) with
            | true =>
              exact WK.fin ok 1000 0 [(7, .d (.bool false)), (17, .d (.bool false)), (34, .d (.bool true)), (39, .d (.bool true)), (45, .d (.bool true)), (51, .d (.bool true))] [] [(.d (.bool (n.1 == 1)), .d (.bool false)), (.d (.bool (n.1 == 2)), .d (.bool false)), (.d (.bool (n.1 == 3)), .d (.bool true)), (.d (.bool (pageB n.2 (0))), .d (.bool true)), (.d (.bool (decide (1 ≤ (Nat.cast (R := Int) (List.length n.data))))), .d (.bool true)), (.d (.bool (decide ((Nat.cast (R := Int) (List.length n.data)) ≤ 505))), .d (.bool true))] rfl (by kernel_rfl : runEnd (cfT tnB) true _ 1000 0 _ _ (ini 103 [.d (nD n)] []) = some (.d (.bool ((Nat.cast (R := Int) (List.map cD n.3).length) == 0)), [], _, _)) trivial ⟨le_bool h7, le_bool h17, le_bool h34, le_bool h39, le_bool h45, le_bool h51, trivial⟩ ⟨by simp at *; simp [mayB, headB, *] <;> (cases n.cells <;> simp <;> omega), rfl⟩
            | false =>
              exact WK.fin ok 1000 0 [(7, .d (.bool false)), (17, .d (.bool false)), (34, .d (.bool true)), (39, .d (.bool true)), (45, .d (.bool true)), (51, .d (.bool false))] [] [(.d (.bool (n.1 == 1)), .d (.bool false)), (.d (.bool (n.1 == 2)), .d (.bool false)), (.d (.bool (n.1 == 3)), .d (.bool true)), (.d (.bool (pageB n.2 (0))), .d (.bool true)), (.d (.bool (decide (1 ≤ (Nat.cast (R := Int) (List.length n.data))))), .d (.bool true)), (.d (.bool (decide ((Nat.cast (R := Int) (List.length n.data)) ≤ 505))), .d (.bool false))] rfl (by kernel_rfl : runEnd (cfT tnB) true _ 1000 0 _ _ (ini 103 [.d (nD n)] []) = some (.d (.bool false), [], _, _)) trivial ⟨le_bool h7, le_bool h17, le_bool h34, le_bool h39, le_bool h45, le_bool h51, trivial⟩ ⟨by simp at *; simp [mayB, headB, *] <;> (cases n.cells <;> simp <;> omega), rfl⟩
          | false =>
            exact WK.fin ok 1000 0 [(7, .d (.bool false)), (17, .d (.bool false)), (34, .d (.bool true)), (39, .d (.bool true)), (45, .d (.bool false))] [] [(.d (.bool (n.1 == 1)), .d (.bool false)), (.d (.bool (n.1 == 2)), .d (.bool false)), (.d (.bool (n.1 == 3)), .d (.bool true)), (.d (.bool (pageB n.2 (0))), .d (.bool true)), (.d (.bool (decide (1 ≤ (Nat.cast (R := Int) (List.length n.data))))), .d (.bool false))] rfl (by kernel_rfl : runEnd (cfT tnB) true _ 1000 0 _ _ (ini 103 [.d (nD n)] []) = some (.d (.bool false), [], _, _)) trivial ⟨le_bool h7, le_bool h17, le_bool h34, le_bool h39, le_bool h45, trivial⟩ ⟨by simp at *; simp [mayB, headB, *] <;> (cases n.cells <;> simp <;> omega), rfl⟩
        | false =>
          exact WK.fin ok 1000 0 [(7, .d (.bool false)), (17, .d (.bool false)), (34, .d (.bool true)), (39, .d (.bool false))] [] [(.d (.bool (n.1 == 1)), .d (.bool false)), (.d (.bool (n.1 == 2)), .d (.bool false)), (.d (.bool (n.1 == 3)), .d (.bool true)), (.d (.bool (pageB n.2 (0))), .d (.bool false))] rfl (by kernel_rfl : runEnd (cfT tnB) true _ 1000 0 _ _ (ini 103 [.d (nD n)] []) = some (.d (.bool false), [], _, _)) trivial ⟨le_bool h7, le_bool h17, le_bool h34, le_bool h39, trivial⟩ ⟨by simp at *; simp [mayB, headB, *] <;> (cases n.cells <;> simp <;> omega), rfl⟩
      | false =>
        cases h57 : (n.1 == 4 : Bool) with
        | true =>
          cases h62 : (pageB n.2 (0) : Bool) with
          | true =>
            cases h67 : (n.4 == [] : Bool) with
            | true =>
              exact WK.fin ok 1000 0 [(7, .d (.bool false)), (17, .d (.bool false)), (34, .d (.bool false)), (57, .d (.bool true)), (62, .d (.bool true)), (67, .d (.bool true))] [] [(.d (.bool (n.1 == 1)), .d (.bool false)), (.d (.bool (n.1 == 2)), .d (.bool false)), (.d (.bool (n.1 == 3)), .d (.bool false)), (.d (.bool (n.1 == 4)), .d (.bool true)), (.d (.bool (pageB n.2 (0))), .d (.bool true)), (.d (.bool (n.4 == [])), .d (.bool true))] rfl (by kernel_rfl : runEnd (cfT tnB) true _ 1000 0 _ _ (ini 103 [.d (nD n)] []) = some (.d (.bool ((Nat.cast (R := Int) (List.map cD n.3).length) == 0)), [], _, _)) trivial ⟨le_bool h7, le_bool h17, le_bool h34, le_bool h57, le_bool h62, le_bool h67, trivial⟩ ⟨by simp at *; simp [mayB, headB, *] <;> (cases n.cells <;> simp <;> omega), rfl⟩
            | false =>
              exact WK.fin ok 1000 0 [(7, .d (.bool false)), (17, .d (.bool false)), (34, .d (.bool false)), (57, .d (.bool true)), (62, .d (.bool true)), (67, .d (.bool false))] [] [(.d (.bool (n.1 == 1)), .d (.bool false)), (.d (.bool (n.1 == 2)), .d (.bool false)), (.d (.bool (n.1 == 3)), .d (.bool false)), (.d (.bool (n.1 == 4)), .d (.bool true)), (.d (.bool (pageB n.2 (0))), .d (.bool true)), (.d (.bool (n.4 == [])), .d (.bool false))] rfl (by kernel_rfl : runEnd (cfT tnB) true _ 1000 0 _ _ (ini 103 [.d (nD n)] []) = some (.d (.bool false), [], _, _)) trivial ⟨le_bool h7, le_bool h17, le_bool h34, le_bool h57, le_bool h62, le_bool h67, trivial⟩ ⟨by simp at *; simp [mayB, headB, *] <;> (cases n.cells <;> simp <;> omega), rfl⟩
          | false =>
            exact WK.fin ok 1000 0 [(7, .d (.bool false)), (17, .d (.bool false)), (34, .d (.bool false)), (57, .d (.bool true)), (62, .d (.bool false))] [] [(.d (.bool (n.1 == 1)), .d (.bool false)), (.d (.bool (n.1 == 2)), .d (.bool false)), (.d (.bool (n.1 == 3)), .d (.bool false)), (.d (.bool (n.1 == 4)), .d (.bool true)), (.d (.bool (pageB n.2 (0))), .d (.bool false))] rfl (by kernel_rfl : runEnd (cfT tnB) true _ 1000 0 _ _ (ini 103 [.d (nD n)] []) = some (.d (.bool false), [], _, _)) trivial ⟨le_bool h7, le_bool h17, le_bool h34, le_bool h57, le_bool h62, trivial⟩ ⟨by simp at *; simp [mayB, headB, *] <;> (cases n.cells <;> simp <;> omega), rfl⟩
        | false =>
          exact WK.fin ok 1000 0 [(7, .d (.bool false)), (17, .d (.bool false)), (34, .d (.bool false)), (57, .d (.bool false))] [] [(.d (.bool (n.1 == 1)), .d (.bool false)), (.d (.bool (n.1 == 2)), .d (.bool false)), (.d (.bool (n.1 == 3)), .d (.bool false)), (.d (.bool (n.1 == 4)), .d (.bool false))] rfl (by kernel_rfl : runEnd (cfT tnB) true _ 1000 0 _ _ (ini 103 [.d (nD n)] []) = some (.d (.bool false), [], _, _)) trivial ⟨le_bool h7, le_bool h17, le_bool h34, le_bool h57, trivial⟩ ⟨by simp at *; simp [mayB, headB, *] <;> (cases n.cells <;> simp <;> omega), rfl⟩
end Go.Proofs.Ytchmeldlpoimnaa
