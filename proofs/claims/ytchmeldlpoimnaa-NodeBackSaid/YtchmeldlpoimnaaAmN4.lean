/-
  A page's bytes.
-/
import Derived.Test.YtchmeldlpoimnaaAmN3
namespace Go.Proofs.Ytchmeldlpoimnaa
open Go.RowKit Am IntWalk
set_option maxRecDepth 100000
set_option linter.unusedVariables false
set_option linter.unusedSimpArgs false

theorem wrap_u8_in (x : Int) : 0 ≤ IntKind.u8.wrap x ∧ IntKind.u8.wrap x < 256 := by
  constructor
  · exact Int.emod_nonneg x (by decide)
  · exact Int.emod_lt_of_pos x (by decide)
theorem bY_eq (x : Int) : DV.int .u8 (IntKind.u8.wrap x) = .int .u8 ((bY x).toNat : Int) := by
  obtain ⟨h1, h2⟩ := wrap_u8_in x
  obtain ⟨m, hm⟩ := Int.eq_ofNat_of_zero_le h1
  simp only [bY, DV.byte, hm] at *
  congr 1
  simp
  omega
theorem u8s_one (x : Int) : [DV.int .u8 (IntKind.u8.wrap x)] = u8s [bY x] := by simp only [u8s, List.map_cons, List.map_nil, bY_eq]
def kY (k : Int) : UInt8 := UInt8.ofNat k.toNat
theorem kY_eq {k : Int} (h1 : 0 ≤ k) (h2 : k < 256) : DV.int .u8 k = .int .u8 ((kY k).toNat : Int) := by
  obtain ⟨m, hm⟩ := Int.eq_ofNat_of_zero_le h1
  simp only [kY, hm] at *
  congr 1
  simp
  omega
theorem u8s_k {k : Int} (h1 : 0 ≤ k) (h2 : k < 256) : [DV.int .u8 k] = u8s [kY k] := by simp only [u8s, List.map_cons, List.map_nil, kY_eq h1 h2]
theorem u8s_app (a b : Bs) : u8s (a ++ b) = u8s a ++ u8s b := by simp [u8s]
theorem u8s_len (a : Bs) : (u8s a).length = a.length := by simp [u8s]
theorem u8s_byte (a : Bs) : (u8s a).map DV.byte = a := by
  induction a with
  | nil => rfl
  | cons x r ih =>
    have h : DV.byte (.int .u8 (x.toNat : Int)) = x := by simp [DV.byte]
    simp only [u8s, List.map_cons, h] at ih ⊢
    rw [ih]
theorem u8s_isB (a : Bs) : (u8s a).all isB = true := by
  simp only [List.all_eq_true, u8s, List.mem_map]
  rintro x ⟨b, _, rfl⟩
  have := b.toNat_lt
  simp [isB]; omega

theorem numX_2 (x : Int) : numX x 2 = num2 x := rfl
theorem numX_4 (x : Int) : numX x 4 = num4 x := rfl
def maxD (n : Nod) : Int := if (n.data.length : Int) > ((n.cells.map cD).length : Int) then (n.data.length : Int) else ((n.cells.map cD).length : Int)
def headBs (n : Nod) : Bs := [kY n.kind] ++ num2 (maxD n) ++ (if n.kind == 1 then [] else num4 n.first)
def cellBs (k : Int) (c : Cel) : Bs := [bY c.key.length] ++ c.key ++ (if k == 1 then num2 c.size ++ c.loc else []) ++ (if decide (0 < c.page) then num4 c.page else [])
def byU (n : Nod) (i : Nat) : Bs := headBs n ++ (n.cells.take i).flatMap (cellBs n.kind)
def byAll (n : Nod) : Bs := byU n n.cells.length ++ n.data
theorem byU_succ (n : Nod) (i : Nat) (h : i < n.cells.length) : byU n (i + 1) = byU n i ++ cellBs n.kind (ndAt n.cells i) := by
  simp only [byU, List.take_add_one, List.getElem?_eq_getElem h, Option.toList_some, List.flatMap_append, List.flatMap_cons, List.flatMap_nil, List.append_nil, List.append_assoc, ndAt]
  simp [h]
theorem byU_le (n : Nod) (i : Nat) (h : i ≤ n.cells.length) : (byU n i).length ≤ (byAll n).length := by
  have : (n.cells.take i).flatMap (cellBs n.kind) ++ (n.cells.drop i).flatMap (cellBs n.kind) = n.cells.flatMap (cellBs n.kind) := by
    rw [← List.flatMap_append, List.take_append_drop]
  have h2 := congrArg List.length this
  simp only [byAll, byU, List.length_append, List.take_length] at h2 ⊢
  omega

noncomputable abbrev byC : Code := (Try.f64.body).getD .skip
def byS (n : Nod) (els : List DV) (i : Nat) : ESt := { n := 62, m := 0, regs := T.mk [(1, .ptr 200 0), (3, .ptr 201 0), (26, .d (.lst 4 (n.cells.map cD) false)), (27, .d (.int .i64 ((n.cells.map cD).length : Int))), (28, .d (.int .i64 (i : Int)))], objs := T.mk [(200, .box 39 [.d (.int .u8 n.kind), .d (.int .i64 n.first), .d (.lst 4 (n.cells.map cD) false), .d (.str n.data)]), (201, .box 96 [.ptr 201 0, .own 202 1]), (202, .arr 5 1 els)] }

theorem bytes_loop (n : Nod) (hn : n.cells.length ≤ 500000) (hl : (byAll n).length ≤ 2000000) (els : List DV) (he : els = u8s (byU n 0)) : WK Try.prog 0 (stackAt byC 0) (byS n els 0).den
      (fun s => ∃ r objs' c, finish (Env.of Try.prog) true 0 (Try.f64.results.toList) s.R s.O = some (r, objs', c) ∧ (∀ b ∈ c, b = true) ∧ r = .d (.str (byAll n)) ∧ objs' = []) := by
  have ok := cfL_ok tnC_ok
  refine WK.rec' (fun (q : List DV × Nat) => byS n q.1 q.2) (fun q => q.2 ≤ n.cells.length ∧ q.1 = u8s (byU n q.2)) (fun q => n.cells.length - q.2) ?_ (els, 0) ⟨by simp, he⟩
  rintro ⟨els, i⟩ ⟨hi, hb⟩ ih
  simp only at hi hb ⊢
  obtain ⟨c, hcd⟩ : ∃ c, ndAt n.cells i = c := ⟨_, rfl⟩
  have hc : i < n.cells.length → (n.cells.map cD).getD i .nilp = cD c := fun h => hcd ▸ getD_cD _ _ h
  have hml : (n.cells.map cD).length = n.cells.length := List.length_map ..
  have hle := byU_le n i hi
  have hel : els.length = (byU n i).length := by rw [hb, u8s_len]
  have hle2 : i < n.cells.length → (byU n i).length + (cellBs n.kind c).length ≤ (byAll n).length := fun h => by
    have := byU_le n (i + 1) h
    rw [byU_succ n i h, hcd, List.length_append] at this
    exact this
  have hdl : n.data.length ≤ 2000000 := by simp only [byAll, List.length_append] at hl; omega
  have hcap : els.length ≤ 2000000 := by omega
  cases h29 : (decide ((Nat.cast (R := Int) i) < (Nat.cast (R := Int) (List.map cD n.cells).length)) : Bool) with
  | true =>
    cases h42 : (n.1 == 1 : Bool) with
    | true =>
      cases h52 : (decide (0 < c.page) : Bool) with
      | true =>
        refine WK.segA ok 1000 0 [(30, RV.iptr (DV.agg [DV.str c.1, DV.int Go.IntKind.i64 c.2, DV.str c.3, DV.int Go.IntKind.i64 c.4]) 0), (57, RV.d (DV.int Go.IntKind.i64 (Nat.cast (R := Int) (i + 1)))), (29, RV.d (DV.bool true)), (42, RV.d (DV.bool true)), (52, RV.d (DV.bool true))] [] [1,3,26,27,28] [decide (0 ≤ (Nat.cast (R := Int) i) ∧ (Nat.cast (R := Int) i) < (Nat.cast (R := Int) (List.map cD n.cells).length)), decide ((els.length + [DV.int Go.IntKind.u8 (Go.IntKind.u8.wrap (Nat.cast (R := Int) (List.length c.key)))].length) * 1 ≤ 2 ^ 38), decide (((els ++ [DV.int Go.IntKind.u8 (Go.IntKind.u8.wrap (Nat.cast (R := Int) (List.length c.key)))]).length + (u8s c.key).length) * 1 ≤ 2 ^ 38), true, decide (List.length (numX c.size (2)) + List.length c.loc ≤ 2 ^ 62), decide (((els ++ [DV.int Go.IntKind.u8 (Go.IntKind.u8.wrap (Nat.cast (R := Int) (List.length c.key)))] ++ u8s c.key).length + (u8s (numX c.size (2) ++ c.loc)).length) * 1 ≤ 2 ^ 38), true, decide (((els ++ [DV.int Go.IntKind.u8 (Go.IntKind.u8.wrap (Nat.cast (R := Int) (List.length c.key)))] ++ u8s c.key ++ u8s (numX c.size (2) ++ c.loc)).length + (u8s (numX c.page (4))).length) * 1 ≤ 2 ^ 38)] [(RV.d (DV.bool (decide ((Nat.cast (R := Int) i) < (Nat.cast (R := Int) (List.map cD n.cells).length)))), RV.d (DV.bool true)), (RV.iptr ((List.map cD n.cells).getD (Nat.cast (R := Int) i).toNat DV.nilp) 0, RV.iptr (DV.agg [DV.str c.1, DV.int Go.IntKind.i64 c.2, DV.str c.3, DV.int Go.IntKind.i64 c.4]) 0), (RV.d (DV.bool (n.1 == 1)), RV.d (DV.bool true)), (RV.d (DV.bool (decide (0 < c.page))), RV.d (DV.bool true)), (RV.d (DV.int Go.IntKind.i64 (Go.IntKind.i64.wrap ((Nat.cast (R := Int) i) + 1))), RV.d (DV.int Go.IntKind.i64 (Nat.cast (R := Int) (i + 1))))] rfl (by kernel_rfl : runSegA (cfL tnC) 1000 0 _ _ _ _ (byS n els i) = some (stackAt byC 0, byS n (els ++ [DV.int Go.IntKind.u8 (Go.IntKind.u8.wrap (Nat.cast (R := Int) (List.length c.1)))] ++ u8s c.1 ++ u8s (numX c.2 (2) ++ c.3) ++ u8s (numX c.4 (4))) (i + 1), _, _)) (by refine ⟨?_, ?_, ?_, ?_, ?_, ?_, ?_, ?_, trivial⟩ <;> (first | rfl | exact decide_eq_true (by have := of_decide_eq_true h29; omega) | exact capOk rfl (by have := hle2 (by simpa using h29); simp [cellBs, *, u8s_len, numX] at this ⊢; omega) | (have := hle2 (by simpa using h29); simp [cellBs, *, u8s_len, numX] at this ⊢; omega) | exact capOk rfl (by rw [u8s_len]; omega) | (rw [hb, ← u8s_app]; exact u8s_isB _) | exact decide_eq_true (by rw [List.length_append, u8s_len]; omega) | (rw [hb]; simp [byU, headBs, u8s]; done))) (by refine ⟨le_bool h29, ?_, le_bool h42, le_bool h52, ?_, trivial⟩ <;> (first | exact .of_eq (by rw [wrap_succ (by omega)]) | exact .of_eq (by rw [Int.toNat_natCast, hc (by simpa using h29)]; rfl))) ?_
        have hlt : i < n.cells.length := by simpa using h29
        refine ih (_, i + 1) ⟨hlt, ?_⟩ (by simp only; omega)
        simp only
        rw [byU_succ n i hlt, hcd, hb]
        simp only [cellBs, h42, h52, if_true, if_false, Bool.false_eq_true, numX_2, numX_4, u8s_app, u8s_one, List.append_assoc, List.append_nil, List.nil_append]
      | false =>
        refine WK.segA ok 1000 0 [(30, RV.iptr (DV.agg [DV.str c.1, DV.int Go.IntKind.i64 c.2, DV.str c.3, DV.int Go.IntKind.i64 c.4]) 0), (57, RV.d (DV.int Go.IntKind.i64 (Nat.cast (R := Int) (i + 1)))), (29, RV.d (DV.bool true)), (42, RV.d (DV.bool true)), (52, RV.d (DV.bool false))] [] [1,3,26,27,28] [decide (0 ≤ (Nat.cast (R := Int) i) ∧ (Nat.cast (R := Int) i) < (Nat.cast (R := Int) (List.map cD n.cells).length)), decide ((els.length + [DV.int Go.IntKind.u8 (Go.IntKind.u8.wrap (Nat.cast (R := Int) (List.length c.key)))].length) * 1 ≤ 2 ^ 38), decide (((els ++ [DV.int Go.IntKind.u8 (Go.IntKind.u8.wrap (Nat.cast (R := Int) (List.length c.key)))]).length + (u8s c.key).length) * 1 ≤ 2 ^ 38), true, decide (List.length (numX c.size (2)) + List.length c.loc ≤ 2 ^ 62), decide (((els ++ [DV.int Go.IntKind.u8 (Go.IntKind.u8.wrap (Nat.cast (R := Int) (List.length c.key)))] ++ u8s c.key).length + (u8s (numX c.size (2) ++ c.loc)).length) * 1 ≤ 2 ^ 38)] [(RV.d (DV.bool (decide ((Nat.cast (R := Int) i) < (Nat.cast (R := Int) (List.map cD n.cells).length)))), RV.d (DV.bool true)), (RV.iptr ((List.map cD n.cells).getD (Nat.cast (R := Int) i).toNat DV.nilp) 0, RV.iptr (DV.agg [DV.str c.1, DV.int Go.IntKind.i64 c.2, DV.str c.3, DV.int Go.IntKind.i64 c.4]) 0), (RV.d (DV.bool (n.1 == 1)), RV.d (DV.bool true)), (RV.d (DV.bool (decide (0 < c.page))), RV.d (DV.bool false)), (RV.d (DV.int Go.IntKind.i64 (Go.IntKind.i64.wrap ((Nat.cast (R := Int) i) + 1))), RV.d (DV.int Go.IntKind.i64 (Nat.cast (R := Int) (i + 1))))] rfl (by kernel_rfl : runSegA (cfL tnC) 1000 0 _ _ _ _ (byS n els i) = some (stackAt byC 0, byS n (els ++ [DV.int Go.IntKind.u8 (Go.IntKind.u8.wrap (Nat.cast (R := Int) (List.length c.1)))] ++ u8s c.1 ++ u8s (numX c.2 (2) ++ c.3)) (i + 1), _, _)) (by refine ⟨?_, ?_, ?_, ?_, ?_, ?_, trivial⟩ <;> (first | rfl | exact decide_eq_true (by have := of_decide_eq_true h29; omega) | exact capOk rfl (by have := hle2 (by simpa using h29); simp [cellBs, *, u8s_len, numX] at this ⊢; omega) | (have := hle2 (by simpa using h29); simp [cellBs, *, u8s_len, numX] at this ⊢; omega) | exact capOk rfl (by rw [u8s_len]; omega) | (rw [hb, ← u8s_app]; exact u8s_isB _) | exact decide_eq_true (by rw [List.length_append, u8s_len]; omega) | (rw [hb]; simp [byU, headBs, u8s]; done))) (by refine ⟨le_bool h29, ?_, le_bool h42, le_bool h52, ?_, trivial⟩ <;> (first | exact .of_eq (by rw [wrap_succ (by omega)]) | exact .of_eq (by rw [Int.toNat_natCast, hc (by simpa using h29)]; rfl))) ?_
        have hlt : i < n.cells.length := by simpa using h29
        refine ih (_, i + 1) ⟨hlt, ?_⟩ (by simp only; omega)
        simp only
        rw [byU_succ n i hlt, hcd, hb]
        simp only [cellBs, h42, h52, if_true, if_false, Bool.false_eq_true, numX_2, numX_4, u8s_app, u8s_one, List.append_assoc, List.append_nil, List.nil_append]
    | false =>
      cases h52 : (decide (0 < c.page) : Bool) with
      | true =>
        refine WK.segA ok 1000 0 [(30, RV.iptr (DV.agg [DV.str c.1, DV.int Go.IntKind.i64 c.2, DV.str c.3, DV.int Go.IntKind.i64 c.4]) 0), (57, RV.d (DV.int Go.IntKind.i64 (Nat.cast (R := Int) (i + 1)))), (29, RV.d (DV.bool true)), (42, RV.d (DV.bool false)), (52, RV.d (DV.bool true))] [] [1,3,26,27,28] [decide (0 ≤ (Nat.cast (R := Int) i) ∧ (Nat.cast (R := Int) i) < (Nat.cast (R := Int) (List.map cD n.cells).length)), decide ((els.length + [DV.int Go.IntKind.u8 (Go.IntKind.u8.wrap (Nat.cast (R := Int) (List.length c.key)))].length) * 1 ≤ 2 ^ 38), decide (((els ++ [DV.int Go.IntKind.u8 (Go.IntKind.u8.wrap (Nat.cast (R := Int) (List.length c.key)))]).length + (u8s c.key).length) * 1 ≤ 2 ^ 38), true, decide (((els ++ [DV.int Go.IntKind.u8 (Go.IntKind.u8.wrap (Nat.cast (R := Int) (List.length c.key)))] ++ u8s c.key).length + (u8s (numX c.page (4))).length) * 1 ≤ 2 ^ 38)] [(RV.d (DV.bool (decide ((Nat.cast (R := Int) i) < (Nat.cast (R := Int) (List.map cD n.cells).length)))), RV.d (DV.bool true)), (RV.iptr ((List.map cD n.cells).getD (Nat.cast (R := Int) i).toNat DV.nilp) 0, RV.iptr (DV.agg [DV.str c.1, DV.int Go.IntKind.i64 c.2, DV.str c.3, DV.int Go.IntKind.i64 c.4]) 0), (RV.d (DV.bool (n.1 == 1)), RV.d (DV.bool false)), (RV.d (DV.bool (decide (0 < c.page))), RV.d (DV.bool true)), (RV.d (DV.int Go.IntKind.i64 (Go.IntKind.i64.wrap ((Nat.cast (R := Int) i) + 1))), RV.d (DV.int Go.IntKind.i64 (Nat.cast (R := Int) (i + 1))))] rfl (by kernel_rfl : runSegA (cfL tnC) 1000 0 _ _ _ _ (byS n els i) = some (stackAt byC 0, byS n (els ++ [DV.int Go.IntKind.u8 (Go.IntKind.u8.wrap (Nat.cast (R := Int) (List.length c.1)))] ++ u8s c.1 ++ u8s (numX c.4 (4))) (i + 1), _, _)) (by refine ⟨?_, ?_, ?_, ?_, ?_, trivial⟩ <;> (first | rfl | exact decide_eq_true (by have := of_decide_eq_true h29; omega) | exact capOk rfl (by have := hle2 (by simpa using h29); simp [cellBs, *, u8s_len, numX] at this ⊢; omega) | (have := hle2 (by simpa using h29); simp [cellBs, *, u8s_len, numX] at this ⊢; omega) | exact capOk rfl (by rw [u8s_len]; omega) | (rw [hb, ← u8s_app]; exact u8s_isB _) | exact decide_eq_true (by rw [List.length_append, u8s_len]; omega) | (rw [hb]; simp [byU, headBs, u8s]; done))) (by refine ⟨le_bool h29, ?_, le_bool h42, le_bool h52, ?_, trivial⟩ <;> (first | exact .of_eq (by rw [wrap_succ (by omega)]) | exact .of_eq (by rw [Int.toNat_natCast, hc (by simpa using h29)]; rfl))) ?_
        have hlt : i < n.cells.length := by simpa using h29
        refine ih (_, i + 1) ⟨hlt, ?_⟩ (by simp only; omega)
        simp only
        rw [byU_succ n i hlt, hcd, hb]
        simp only [cellBs, h42, h52, if_true, if_false, Bool.false_eq_true, numX_2, numX_4, u8s_app, u8s_one, List.append_assoc, List.append_nil, List.nil_append]
      | false =>
        refine WK.segA ok 1000 0 [(30, RV.iptr (DV.agg [DV.str c.1, DV.int Go.IntKind.i64 c.2, DV.str c.3, DV.int Go.IntKind.i64 c.4]) 0), (57, RV.d (DV.int Go.IntKind.i64 (Nat.cast (R := Int) (i + 1)))), (29, RV.d (DV.bool true)), (42, RV.d (DV.bool false)), (52, RV.d (DV.bool false))] [] [1,3,26,27,28] [decide (0 ≤ (Nat.cast (R := Int) i) ∧ (Nat.cast (R := Int) i) < (Nat.cast (R := Int) (List.map cD n.cells).length)), decide ((els.length + [DV.int Go.IntKind.u8 (Go.IntKind.u8.wrap (Nat.cast (R := Int) (List.length c.key)))].length) * 1 ≤ 2 ^ 38), decide (((els ++ [DV.int Go.IntKind.u8 (Go.IntKind.u8.wrap (Nat.cast (R := Int) (List.length c.key)))]).length + (u8s c.key).length) * 1 ≤ 2 ^ 38)] [(RV.d (DV.bool (decide ((Nat.cast (R := Int) i) < (Nat.cast (R := Int) (List.map cD n.cells).length)))), RV.d (DV.bool true)), (RV.iptr ((List.map cD n.cells).getD (Nat.cast (R := Int) i).toNat DV.nilp) 0, RV.iptr (DV.agg [DV.str c.1, DV.int Go.IntKind.i64 c.2, DV.str c.3, DV.int Go.IntKind.i64 c.4]) 0), (RV.d (DV.bool (n.1 == 1)), RV.d (DV.bool false)), (RV.d (DV.bool (decide (0 < c.page))), RV.d (DV.bool false)), (RV.d (DV.int Go.IntKind.i64 (Go.IntKind.i64.wrap ((Nat.cast (R := Int) i) + 1))), RV.d (DV.int Go.IntKind.i64 (Nat.cast (R := Int) (i + 1))))] rfl (by kernel_rfl : runSegA (cfL tnC) 1000 0 _ _ _ _ (byS n els i) = some (stackAt byC 0, byS n (els ++ [DV.int Go.IntKind.u8 (Go.IntKind.u8.wrap (Nat.cast (R := Int) (List.length c.1)))] ++ u8s c.1) (i + 1), _, _)) (by refine ⟨?_, ?_, ?_, trivial⟩ <;> (first | rfl | exact decide_eq_true (by have := of_decide_eq_true h29; omega) | exact capOk rfl (by have := hle2 (by simpa using h29); simp [cellBs, *, u8s_len, numX] at this ⊢; omega) | (have := hle2 (by simpa using h29); simp [cellBs, *, u8s_len, numX] at this ⊢; omega) | exact capOk rfl (by rw [u8s_len]; omega) | (rw [hb, ← u8s_app]; exact u8s_isB _) | exact decide_eq_true (by rw [List.length_append, u8s_len]; omega) | (rw [hb]; simp [byU, headBs, u8s]; done))) (by refine ⟨le_bool h29, ?_, le_bool h42, le_bool h52, ?_, trivial⟩ <;> (first | exact .of_eq (by rw [wrap_succ (by omega)]) | exact .of_eq (by rw [Int.toNat_natCast, hc (by simpa using h29)]; rfl))) ?_
        have hlt : i < n.cells.length := by simpa using h29
        refine ih (_, i + 1) ⟨hlt, ?_⟩ (by simp only; omega)
        simp only
        rw [byU_succ n i hlt, hcd, hb]
        simp only [cellBs, h42, h52, if_true, if_false, Bool.false_eq_true, numX_2, numX_4, u8s_app, u8s_one, List.append_assoc, List.append_nil, List.nil_append]
  | false =>
    exact WK.fin ok 1000 0 [(30, RV.iptr (DV.agg [DV.str c.1, DV.int Go.IntKind.i64 c.2, DV.str c.3, DV.int Go.IntKind.i64 c.4]) 0), (57, RV.d (DV.int Go.IntKind.i64 (Nat.cast (R := Int) (i + 1)))), (29, RV.d (DV.bool false))] [decide ((els.length + (u8s n.data).length) * 1 ≤ 2 ^ 38), (els ++ u8s n.4).all isB, !(els ++ u8s n.4).isEmpty, decide ((els ++ u8s n.data).length ≤ 1099511627776)] [(RV.d (DV.bool (decide ((Nat.cast (R := Int) i) < (Nat.cast (R := Int) (List.map cD n.cells).length)))), RV.d (DV.bool false))] rfl (by kernel_rfl : runEnd (cfL tnC) true _ 1000 0 _ _ (byS n els i) = some (RV.d (DV.str (List.map DV.byte (els ++ u8s n.4))), [], _, _)) (by refine ⟨?_, ?_, ?_, ?_, trivial⟩ <;> (first | rfl | exact decide_eq_true (by have := of_decide_eq_true h29; omega) | exact capOk rfl (by have := hle2 (by simpa using h29); simp [cellBs, *, u8s_len, numX] at this ⊢; omega) | (have := hle2 (by simpa using h29); simp [cellBs, *, u8s_len, numX] at this ⊢; omega) | exact capOk rfl (by rw [u8s_len]; omega) | (rw [hb, ← u8s_app]; exact u8s_isB _) | exact decide_eq_true (by rw [List.length_append, u8s_len]; omega) | (rw [hb]; simp [byU, headBs, u8s]; done))) ⟨le_bool h29, trivial⟩ ⟨by rw [hb, ← u8s_app, u8s_byte]; have hin : i = n.cells.length := (by simp at h29; omega); rw [hin]; rfl, rfl⟩

theorem bytes_c (n : Nod) (hk : 0 ≤ n.kind ∧ n.kind < 256) (hn : n.cells.length ≤ 500000) (hl : (byAll n).length ≤ 2000000) : C Try.prog 64 [.d (nD n)] [] (fun r o => r = .d (.str (byAll n)) ∧ o = []) := by
  have ok := cfL_ok tnC_ok
  refine C_of_run (fn := Try.f64) (body := byC) true (by kernel_rfl) (by kernel_rfl) (by kernel_rfl) ?_
  cases h20 : (n.1 != 1 : Bool) with
  | true =>
    refine WK.segA ok 1000 0 [(20, RV.d (DV.bool true))] [] [1,3,26,27,28] [true, true, true, true, true, true] [(RV.d (DV.bool (n.1 != 1)), RV.d (DV.bool true))] rfl (by kernel_rfl : runSegA (cfL tnC) 1000 0 _ _ _ _ (ini 62 [.d (nD n)] []) = some (stackAt byC 0, byS n ([] ++ [DV.int Go.IntKind.u8 n.1] ++ u8s (numX (if (Nat.cast (R := Int) (List.length n.data)) > (Nat.cast (R := Int) (List.map cD n.cells).length) then (Nat.cast (R := Int) (List.length n.4)) else (Nat.cast (R := Int) (List.map cD n.3).length)) (2)) ++ u8s (numX n.2 (4))) 0, _, _)) (by refine ⟨?_, ?_, ?_, ?_, ?_, ?_, trivial⟩ <;> (first | rfl | assumption | (simp; omega))) ⟨le_bool h20, trivial⟩ ?_
    refine bytes_loop n hn hl _ ?_
    simp only [byU, headBs, List.take_zero, List.flatMap_nil, List.append_nil, u8s_app, List.nil_append, numX_2, numX_4, if_true, u8s_k hk.1 hk.2]
    simp at h20
    simp [h20, maxD] <;> rfl
  | false =>
    refine WK.segA ok 1000 0 [(20, RV.d (DV.bool false))] [] [1,3,26,27,28] [true, true, true, true] [(RV.d (DV.bool (n.1 != 1)), RV.d (DV.bool false))] rfl (by kernel_rfl : runSegA (cfL tnC) 1000 0 _ _ _ _ (ini 62 [.d (nD n)] []) = some (stackAt byC 0, byS n ([] ++ [DV.int Go.IntKind.u8 n.1] ++ u8s (numX (if (Nat.cast (R := Int) (List.length n.data)) > (Nat.cast (R := Int) (List.map cD n.cells).length) then (Nat.cast (R := Int) (List.length n.4)) else (Nat.cast (R := Int) (List.map cD n.3).length)) (2))) 0, _, _)) (by refine ⟨?_, ?_, ?_, ?_, trivial⟩ <;> (first | rfl | assumption | (simp; omega))) ⟨le_bool h20, trivial⟩ ?_
    refine bytes_loop n hn hl _ ?_
    simp only [byU, headBs, List.take_zero, List.flatMap_nil, List.append_nil, u8s_app, List.nil_append, numX_2, numX_4, if_true, u8s_k hk.1 hk.2]
    simp at h20
    simp [h20, maxD] <;> rfl
end Go.Proofs.Ytchmeldlpoimnaa
