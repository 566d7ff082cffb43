/-
  The reference's bytes of a page that may be, and its Put.
-/
import Derived.Test.YtchmeldlpoimnaaAmR3
namespace Go.Proofs.Ytchmeldlpoimnaa
open Go.RowKit Am IntWalk
set_option maxRecDepth 100000
set_option linter.unusedVariables false
set_option linter.unusedSimpArgs false

theorem may_first {n : Nod} (h : mayB n = true) : 0 ≤ n.first ∧ n.first ≤ 256 := by
  simp only [mayB, Bool.and_eq_true] at h
  have h1 := h.1
  unfold headB pageB at h1
  split at h1
  · simp at h1; omega
  · split at h1
    · simp at h1; omega
    · split at h1
      · simp at h1; omega
      · split at h1
        · simp at h1; omega
        · cases h1
theorem leaf_in {c : Cel} (h : cellB 1 c = true) : c.key.length ≤ 100 ∧ c.loc.length ≤ 100 ∧ 0 ≤ c.size ∧ c.size ≤ 4000 ∧ 0 ≤ c.page ∧ c.page ≤ 256 ∧ decide (0 < c.page) = decide (100 < c.size) := by
  by_cases h6 : 100 < c.size
  · simp [cellB, pageB, h6] at h
    simp [h6]; omega
  · simp [cellB, pageB, h6] at h
    simp [h6]; omega
theorem inner_in {c : Cel} (h : cellB 2 c = true) : c.key.length ≤ 100 ∧ 0 ≤ c.page ∧ c.page ≤ 256 ∧ decide (0 < c.page) = true := by
  simp [cellB, pageB] at h
  refine ⟨by omega, by omega, by omega, by simp; omega⟩
theorem bY_kY {k : Int} (h1 : 0 ≤ k) (h2 : k < 256) : bY k = kY k := by
  have : IntKind.u8.wrap k = k := Int.emod_eq_of_lt h1 h2
  simp only [bY, kY, this, DV.byte]
theorem more_len {n : Nod} (h : mayB n = true) (hk : n.kind = 3) : 1 ≤ n.data.length := by
  simp only [mayB, Bool.and_eq_true] at h
  have h1 := h.1
  simp [headB, hk] at h1
  omega

theorem rb_loop1 (n : Nod) (h : mayB n = true) (hnk : Nok n) (hk : n.kind = 1) (s0 : Bs) (hs0 : s0 = byU n 0) : WK Try.prog 0 (stackAt rbC 0) (rbS 4 n s0 0).den (Ends (Try.f33.results.toList) (.d (.str (byAll n)))) := by
  have ok := cfT_ok trC_ok
  obtain ⟨_, hn, hl⟩ := hnk
  have hdata : n.data = [] := by rcases may_kind h with ⟨_, e⟩ | ⟨e, _⟩ | ⟨e, _⟩ | ⟨e, _⟩ <;> first | exact e | omega
  refine WK.rec' (fun (q : Bs × Nat) => rbS 4 n q.1 q.2) (fun q => q.2 ≤ n.cells.length ∧ q.1 = byU n q.2) (fun q => n.cells.length - q.2) ?_ (s0, 0) ⟨by simp, hs0⟩
  rintro ⟨s, i⟩ ⟨hi, hb⟩ ih
  simp only at hi hb ⊢
  obtain ⟨c, hcd⟩ : ∃ c, ndAt n.cells i = c := ⟨_, rfl⟩
  have hml : (n.cells.map cD).length = n.cells.length := List.length_map ..
  have hlt : decide ((Nat.cast (R := Int) i) < (Nat.cast (R := Int) (List.map cD n.cells).length)) = true → i < n.cells.length := fun h => by have := of_decide_eq_true h; omega
  have hend : decide ((Nat.cast (R := Int) i) < (Nat.cast (R := Int) (List.map cD n.cells).length)) = false → s = byAll n := fun h => by
    have := of_decide_eq_false h
    have : i = n.cells.length := by omega
    rw [hb, this, byAll, hdata, List.append_nil]
  have hc : i < n.cells.length → (n.cells.map cD).getD i .nilp = cD c := fun h => hcd ▸ getD_cD _ _ h
  have hcb : i < n.cells.length → cellB 1 c = true := fun q => by
    have := may_cell h (.inl hk) c (by rw [← hcd]; simp [ndAt, q])
    rw [hk] at this; exact this
  have hsl : s.length ≤ 2000000 := by rw [hb]; exact Nat.le_trans (byU_le n i hi) hl
  have hu : i < n.cells.length → byU n (i + 1) = s ++ ([bY c.key.length] ++ c.key ++ (num2 c.size ++ c.loc) ++ (if decide (100 < c.size) then num4 c.page else [])) := fun q => by
    rw [byU_succ n i q, hcd, ← hb, hk]
    simp only [cellBs, (leaf_in (hcb q)).2.2.2.2.2.2, beq_self_eq_true, if_true]
  cases h32 : (decide ((Nat.cast (R := Int) i) < (Nat.cast (R := Int) (List.map cD n.cells).length)) : Bool) with
  | true =>
    cases h58 : (decide (100 < c.size) : Bool) with
    | true =>
      refine WK.segA ok 1000 0 [(34, .d (.int .i64 (Nat.cast (R := Int) (i + 1)))), (38, .iptr (.agg [.str c.1, .int .i64 c.2, .str c.3, .int .i64 c.4]) 0), (32, .d (.bool true)), (58, .d (.bool true))] [] [1,3,4] [decide (0 ≤ (Nat.cast (R := Int) i) ∧ (Nat.cast (R := Int) i) < (Nat.cast (R := Int) (List.map cD n.cells).length)), true, decide ((Nat.cast (R := Int) (List.length c.key)) ≤ 1000000000), true, decide (List.length s + List.length (nmR (Nat.cast (R := Int) (List.length c.key)) (1)) ≤ 2 ^ 62), decide ((s ++ nmR (Nat.cast (R := Int) (List.length c.key)) (1)).length + List.length c.key ≤ 2 ^ 62), decide (0 ≤ c.size), decide (c.size ≤ 1000000000), true, decide ((s ++ nmR (Nat.cast (R := Int) (List.length c.key)) (1) ++ c.key).length + List.length (nmR c.size (2)) ≤ 2 ^ 62), decide ((s ++ nmR (Nat.cast (R := Int) (List.length c.key)) (1) ++ c.key ++ nmR c.size (2)).length + List.length c.loc ≤ 2 ^ 62), decide (0 ≤ c.page), decide (c.page ≤ 1000000000), true, decide ((s ++ nmR (Nat.cast (R := Int) (List.length c.key)) (1) ++ c.key ++ nmR c.size (2) ++ c.loc).length + List.length (nmR c.page (4)) ≤ 2 ^ 62)] [(.d (.bool (decide ((Nat.cast (R := Int) i) < (Nat.cast (R := Int) (List.map cD n.cells).length)))), .d (.bool true)), (.iptr ((List.map cD n.cells).getD (Nat.cast (R := Int) i).toNat .nilp) 0, .iptr (.agg [.str c.1, .int .i64 c.2, .str c.3, .int .i64 c.4]) 0), (.d (.bool (decide (100 < c.size))), .d (.bool true)), (.d (.int .i64 (IntKind.i64.wrap ((Nat.cast (R := Int) i) + 1))), .d (.int .i64 (Nat.cast (R := Int) (i + 1))))] rfl (by kernel_rfl : runSegA (cfT trC) 1000 0 _ _ _ _ (rbS 4 n s i) = some (stackAt rbC 0, rbS 4 n (s ++ nmR (Nat.cast (R := Int) (List.length c.1)) (1) ++ c.1 ++ nmR c.2 (2) ++ c.3 ++ nmR c.4 (4)) (i + 1), _, _)) (by refine ⟨?_, ?_, ?_, ?_, ?_, ?_, ?_, ?_, ?_, ?_, ?_, ?_, ?_, ?_, ?_, trivial⟩ <;> (first | rfl | exact decide_eq_true (by have := hlt h32; omega) | (have q := leaf_in (hcb (hlt h32)); exact decide_eq_true (by omega)) | (have q := leaf_in (hcb (hlt h32)); exact decide_eq_true (by simp only [List.length_append, nmR_1, nmR_2, nmR_4, num2_len, num4_len, List.length_cons, List.length_nil]; omega)))) (by refine ⟨le_bool h32, ?_, le_bool h58, ?_, trivial⟩ <;> (first | (refine .of_eq ?_; rw [wrap_succ (by omega)]; done) | (refine .of_eq ?_; rw [Int.toNat_natCast, hc (hlt h32)]; rfl))) ?_
      refine ih (_, i + 1) ⟨hlt h32, ?_⟩ (by have := hlt h32; simp only; omega)
      simp only
      rw [hu (hlt h32), h58]
      simp only [nmR_1, nmR_2, nmR_4, List.append_assoc, if_true, if_false, Bool.false_eq_true, List.append_nil]
    | false =>
      refine WK.segA ok 1000 0 [(34, .d (.int .i64 (Nat.cast (R := Int) (i + 1)))), (38, .iptr (.agg [.str c.1, .int .i64 c.2, .str c.3, .int .i64 c.4]) 0), (32, .d (.bool true)), (58, .d (.bool false))] [] [1,3,4] [decide (0 ≤ (Nat.cast (R := Int) i) ∧ (Nat.cast (R := Int) i) < (Nat.cast (R := Int) (List.map cD n.cells).length)), true, decide ((Nat.cast (R := Int) (List.length c.key)) ≤ 1000000000), true, decide (List.length s + List.length (nmR (Nat.cast (R := Int) (List.length c.key)) (1)) ≤ 2 ^ 62), decide ((s ++ nmR (Nat.cast (R := Int) (List.length c.key)) (1)).length + List.length c.key ≤ 2 ^ 62), decide (0 ≤ c.size), decide (c.size ≤ 1000000000), true, decide ((s ++ nmR (Nat.cast (R := Int) (List.length c.key)) (1) ++ c.key).length + List.length (nmR c.size (2)) ≤ 2 ^ 62), decide ((s ++ nmR (Nat.cast (R := Int) (List.length c.key)) (1) ++ c.key ++ nmR c.size (2)).length + List.length c.loc ≤ 2 ^ 62)] [(.d (.bool (decide ((Nat.cast (R := Int) i) < (Nat.cast (R := Int) (List.map cD n.cells).length)))), .d (.bool true)), (.iptr ((List.map cD n.cells).getD (Nat.cast (R := Int) i).toNat .nilp) 0, .iptr (.agg [.str c.1, .int .i64 c.2, .str c.3, .int .i64 c.4]) 0), (.d (.bool (decide (100 < c.size))), .d (.bool false)), (.d (.int .i64 (IntKind.i64.wrap ((Nat.cast (R := Int) i) + 1))), .d (.int .i64 (Nat.cast (R := Int) (i + 1))))] rfl (by kernel_rfl : runSegA (cfT trC) 1000 0 _ _ _ _ (rbS 4 n s i) = some (stackAt rbC 0, rbS 4 n (s ++ nmR (Nat.cast (R := Int) (List.length c.1)) (1) ++ c.1 ++ nmR c.2 (2) ++ c.3) (i + 1), _, _)) (by refine ⟨?_, ?_, ?_, ?_, ?_, ?_, ?_, ?_, ?_, ?_, ?_, trivial⟩ <;> (first | rfl | exact decide_eq_true (by have := hlt h32; omega) | (have q := leaf_in (hcb (hlt h32)); exact decide_eq_true (by omega)) | (have q := leaf_in (hcb (hlt h32)); exact decide_eq_true (by simp only [List.length_append, nmR_1, nmR_2, nmR_4, num2_len, num4_len, List.length_cons, List.length_nil]; omega)))) (by refine ⟨le_bool h32, ?_, le_bool h58, ?_, trivial⟩ <;> (first | (refine .of_eq ?_; rw [wrap_succ (by omega)]; done) | (refine .of_eq ?_; rw [Int.toNat_natCast, hc (hlt h32)]; rfl))) ?_
      refine ih (_, i + 1) ⟨hlt h32, ?_⟩ (by have := hlt h32; simp only; omega)
      simp only
      rw [hu (hlt h32), h58]
      simp only [nmR_1, nmR_2, nmR_4, List.append_assoc, if_true, if_false, Bool.false_eq_true, List.append_nil]
  | false =>
    exact WK.fin ok 1000 0 [(34, .d (.int .i64 (Nat.cast (R := Int) (i + 1)))), (38, .iptr (.agg [.str c.1, .int .i64 c.2, .str c.3, .int .i64 c.4]) 0), (32, .d (.bool false))] [] [(.d (.bool (decide ((Nat.cast (R := Int) i) < (Nat.cast (R := Int) (List.map cD n.cells).length)))), .d (.bool false))] rfl (by kernel_rfl : runEnd (cfT trC) true _ 1000 0 _ _ (rbS 4 n s i) = some (.d (.str s), [], _, _)) trivial ⟨le_bool h32, trivial⟩ ⟨by rw [hend h32], rfl⟩

theorem rb_loop2 (n : Nod) (h : mayB n = true) (hnk : Nok n) (hk : n.kind = 2) (s0 : Bs) (hs0 : s0 = byU n 0) : WK Try.prog 0 (stackAt rbC 1) (rbS 6 n s0 0).den (Ends (Try.f33.results.toList) (.d (.str (byAll n)))) := by
  have ok := cfT_ok trC_ok
  obtain ⟨_, hn, hl⟩ := hnk
  have hdata : n.data = [] := by rcases may_kind h with ⟨e, _⟩ | ⟨_, e, _⟩ | ⟨e, _⟩ | ⟨e, _⟩ <;> first | exact e | omega
  refine WK.rec' (fun (q : Bs × Nat) => rbS 6 n q.1 q.2) (fun q => q.2 ≤ n.cells.length ∧ q.1 = byU n q.2) (fun q => n.cells.length - q.2) ?_ (s0, 0) ⟨by simp, hs0⟩
  rintro ⟨s, i⟩ ⟨hi, hb⟩ ih
  simp only at hi hb ⊢
  obtain ⟨c, hcd⟩ : ∃ c, ndAt n.cells i = c := ⟨_, rfl⟩
  have hml : (n.cells.map cD).length = n.cells.length := List.length_map ..
  have hlt : decide ((Nat.cast (R := Int) i) < (Nat.cast (R := Int) (List.map cD n.cells).length)) = true → i < n.cells.length := fun h => by have := of_decide_eq_true h; omega
  have hend : decide ((Nat.cast (R := Int) i) < (Nat.cast (R := Int) (List.map cD n.cells).length)) = false → s = byAll n := fun h => by
    have := of_decide_eq_false h
    have : i = n.cells.length := by omega
    rw [hb, this, byAll, hdata, List.append_nil]
  have hc : i < n.cells.length → (n.cells.map cD).getD i .nilp = cD c := fun h => hcd ▸ getD_cD _ _ h
  have hcb : i < n.cells.length → cellB 2 c = true := fun q => by
    have := may_cell h (.inr hk) c (by rw [← hcd]; simp [ndAt, q])
    rw [hk] at this; exact this
  have hsl : s.length ≤ 2000000 := by rw [hb]; exact Nat.le_trans (byU_le n i hi) hl
  have hu : i < n.cells.length → byU n (i + 1) = s ++ ([bY c.key.length] ++ c.key ++ num4 c.page) := fun q => by
    rw [byU_succ n i q, hcd, ← hb, hk]
    simp only [cellBs, (inner_in (hcb q)).2.2.2, if_true]
    simp
  cases h80 : (decide ((Nat.cast (R := Int) i) < (Nat.cast (R := Int) (List.map cD n.cells).length)) : Bool) with
  | true =>
    refine WK.segA ok 1000 0 [(82, .d (.int .i64 (Nat.cast (R := Int) (i + 1)))), (87, .iptr (.agg [.str c.1, .int .i64 c.2, .str c.3, .int .i64 c.4]) 0), (96, .iptr (.agg [.str c.1, .int .i64 c.2, .str c.3, .int .i64 c.4]) 0), (103, .iptr (.agg [.str c.1, .int .i64 c.2, .str c.3, .int .i64 c.4]) 0), (80, .d (.bool true))] [] [1,3,6] [decide (0 ≤ (Nat.cast (R := Int) i) ∧ (Nat.cast (R := Int) i) < (Nat.cast (R := Int) (List.map cD n.cells).length)), true, decide ((Nat.cast (R := Int) (List.length c.key)) ≤ 1000000000), true, decide (List.length s + List.length (nmR (Nat.cast (R := Int) (List.length c.key)) (1)) ≤ 2 ^ 62), decide (0 ≤ (Nat.cast (R := Int) i) ∧ (Nat.cast (R := Int) i) < (Nat.cast (R := Int) (List.map cD n.cells).length)), decide ((s ++ nmR (Nat.cast (R := Int) (List.length c.key)) (1)).length + List.length c.key ≤ 2 ^ 62), decide (0 ≤ (Nat.cast (R := Int) i) ∧ (Nat.cast (R := Int) i) < (Nat.cast (R := Int) (List.map cD n.cells).length)), decide (0 ≤ c.page), decide (c.page ≤ 1000000000), true, decide ((s ++ nmR (Nat.cast (R := Int) (List.length c.key)) (1) ++ c.key).length + List.length (nmR c.page (4)) ≤ 2 ^ 62)] [(.d (.bool (decide ((Nat.cast (R := Int) i) < (Nat.cast (R := Int) (List.map cD n.cells).length)))), .d (.bool true)), (.iptr ((List.map cD n.cells).getD (Nat.cast (R := Int) i).toNat .nilp) 0, .iptr (.agg [.str c.1, .int .i64 c.2, .str c.3, .int .i64 c.4]) 0), (.iptr ((List.map cD n.cells).getD (Nat.cast (R := Int) i).toNat .nilp) 0, .iptr (.agg [.str c.1, .int .i64 c.2, .str c.3, .int .i64 c.4]) 0), (.iptr ((List.map cD n.cells).getD (Nat.cast (R := Int) i).toNat .nilp) 0, .iptr (.agg [.str c.1, .int .i64 c.2, .str c.3, .int .i64 c.4]) 0), (.d (.int .i64 (IntKind.i64.wrap ((Nat.cast (R := Int) i) + 1))), .d (.int .i64 (Nat.cast (R := Int) (i + 1))))] rfl (by kernel_rfl : runSegA (cfT trC) 1000 0 _ _ _ _ (rbS 6 n s i) = some (stackAt rbC 1, rbS 6 n (s ++ nmR (Nat.cast (R := Int) (List.length c.1)) (1) ++ c.1 ++ nmR c.4 (4)) (i + 1), _, _)) (by refine ⟨?_, ?_, ?_, ?_, ?_, ?_, ?_, ?_, ?_, ?_, ?_, ?_, trivial⟩ <;> (first | rfl | exact decide_eq_true (by have := hlt h80; omega) | (have q := inner_in (hcb (hlt h80)); exact decide_eq_true (by omega)) | (have q := inner_in (hcb (hlt h80)); exact decide_eq_true (by simp only [List.length_append, nmR_1, nmR_2, nmR_4, num2_len, num4_len, List.length_cons, List.length_nil]; omega)))) (by refine ⟨le_bool h80, ?_, ?_, ?_, ?_, trivial⟩ <;> (first | (refine .of_eq ?_; rw [wrap_succ (by omega)]; done) | (refine .of_eq ?_; rw [Int.toNat_natCast, hc (hlt h80)]; rfl))) ?_
    refine ih (_, i + 1) ⟨hlt h80, ?_⟩ (by have := hlt h80; simp only; omega)
    simp only
    rw [hu (hlt h80)]
    simp only [nmR_1, nmR_2, nmR_4, List.append_assoc]
  | false =>
    exact WK.fin ok 1000 0 [(82, .d (.int .i64 (Nat.cast (R := Int) (i + 1)))), (87, .iptr (.agg [.str c.1, .int .i64 c.2, .str c.3, .int .i64 c.4]) 0), (96, .iptr (.agg [.str c.1, .int .i64 c.2, .str c.3, .int .i64 c.4]) 0), (103, .iptr (.agg [.str c.1, .int .i64 c.2, .str c.3, .int .i64 c.4]) 0), (80, .d (.bool false))] [] [(.d (.bool (decide ((Nat.cast (R := Int) i) < (Nat.cast (R := Int) (List.map cD n.cells).length)))), .d (.bool false))] rfl (by kernel_rfl : runEnd (cfT trC) true _ 1000 0 _ _ (rbS 6 n s i) = some (.d (.str s), [], _, _)) trivial ⟨le_bool h80, trivial⟩ ⟨by rw [hend h80], rfl⟩

theorem byAll_nil {n : Nod} (hc : n.cells = []) (hk : n.kind ≠ 1) : byAll n = [kY n.kind] ++ num2 n.data.length ++ num4 n.first ++ n.data := by
  have e : maxD n = n.data.length := by simp only [maxD, hc, List.map_nil, List.length_nil]; split <;> omega
  simp [byAll, byU, headBs, e, hc, hk]
theorem byU_0 {n : Nod} (hd : n.data = []) : byU n 0 = [kY n.kind] ++ num2 ((n.cells.map cD).length) ++ (if n.kind == 1 then [] else num4 n.first) := by
  have e : maxD n = ((n.cells.map cD).length : Int) := by simp only [maxD, hd, List.length_nil]; split <;> omega
  simp only [byU, headBs, e, List.take_zero, List.flatMap_nil, List.append_nil]
theorem rbytes_c (n : Nod) (h : mayB n = true) (hnk : Nok n) : C Try.prog 33 [.d (nD n)] [] (fun r o => r = .d (.str (byAll n)) ∧ o = []) := by
  have ok := cfT_ok trC_ok
  refine C_of_run (fn := Try.f33) (body := rbC) true (by kernel_rfl) (by kernel_rfl) (by kernel_rfl) ?_
  have hw : IntKind.i64.wrap n.1 = n.kind := w64 _ hnk.1.1 (by have := hnk.1.2; omega)
  have hbk : bY n.kind = kY n.kind := bY_kY hnk.1.1 hnk.1.2
  have hfi := may_first h
  have hkn := may_kind h
  have hml : (n.cells.map cD).length = n.cells.length := List.length_map ..
  have hdl : n.data.length ≤ 505 := by rcases hkn with ⟨_, e⟩ | ⟨_, e, _⟩ | ⟨_, _, e⟩ | ⟨_, _, e⟩ <;> first | (rw [e]; simp; done) | exact e
  have hn := hnk.2.1
  have hk := hnk.1
  cases h21 : (n.1 == 1 : Bool) with
  | true =>
    refine WK.segA ok 1000 0 [(21, .d (.bool true))] [] [1, 3, 4] [decide (0 ≤ IntKind.i64.wrap n.kind), decide (IntKind.i64.wrap n.kind ≤ 1000000000), true, true, decide ((Nat.cast (R := Int) (List.map cD n.cells).length) ≤ 1000000000), true, true] [(.d (.bool (n.1 == 1)), .d (.bool true))] rfl (by kernel_rfl : runSegA (cfT trC) 1000 0 _ _ _ _ (ini 124 [.d (nD n)] []) = some (stackAt rbC 0, rbS 4 n (nmR (IntKind.i64.wrap n.1) (1) ++ nmR (Nat.cast (R := Int) (List.map cD n.3).length) (2)) 0, _, _)) (by refine ⟨?_, ?_, ?_, ?_, ?_, ?_, ?_, trivial⟩ <;> (first | rfl | (rw [hw]; exact decide_eq_true (by omega)) | exact decide_eq_true (by omega) | exact decide_eq_true (by simp only [List.length_append, nmR_1, nmR_2, nmR_4, num2_len, num4_len, List.length_cons, List.length_nil]; omega))) ⟨le_bool h21, trivial⟩ ?_
    refine rb_loop1 n h hnk (by simpa using h21) _ ?_
    have hd : n.data = [] := by rcases hkn with ⟨_, e⟩ | ⟨_, e, _⟩ | ⟨e, _⟩ | ⟨_, _, e⟩ <;> first | exact e | (simp at h21; omega)
    rw [byU_0 hd, h21, hw, nmR_1, nmR_2, hbk]; simp
  | false =>
    cases h65 : (n.1 == 2 : Bool) with
    | true =>
      refine WK.segA ok 1000 0 [(21, .d (.bool false)), (65, .d (.bool true))] [] [1, 3, 6] [decide (0 ≤ IntKind.i64.wrap n.kind), decide (IntKind.i64.wrap n.kind ≤ 1000000000), true, true, decide ((Nat.cast (R := Int) (List.map cD n.cells).length) ≤ 1000000000), true, true, decide (0 ≤ n.first), decide (n.first ≤ 1000000000), true, true] [(.d (.bool (n.1 == 1)), .d (.bool false)), (.d (.bool (n.1 == 2)), .d (.bool true))] rfl (by kernel_rfl : runSegA (cfT trC) 1000 0 _ _ _ _ (ini 124 [.d (nD n)] []) = some (stackAt rbC 1, rbS 6 n (nmR (IntKind.i64.wrap n.1) (1) ++ nmR (Nat.cast (R := Int) (List.map cD n.3).length) (2) ++ nmR n.2 (4)) 0, _, _)) (by refine ⟨?_, ?_, ?_, ?_, ?_, ?_, ?_, ?_, ?_, ?_, ?_, trivial⟩ <;> (first | rfl | (rw [hw]; exact decide_eq_true (by omega)) | exact decide_eq_true (by omega) | exact decide_eq_true (by simp only [List.length_append, nmR_1, nmR_2, nmR_4, num2_len, num4_len, List.length_cons, List.length_nil]; omega))) ⟨le_bool h21, le_bool h65, trivial⟩ ?_
      refine rb_loop2 n h hnk (by simpa using h65) _ ?_
      have hd : n.data = [] := by rcases hkn with ⟨_, e⟩ | ⟨_, e, _⟩ | ⟨e, _⟩ | ⟨_, _, e⟩ <;> first | exact e | (simp at h65; omega)
      rw [byU_0 hd, h21, hw, nmR_1, nmR_2, nmR_4, hbk]; simp
    | false =>
      cases h109 : (n.1 == 3 : Bool) with
      | true =>
        exact WK.fin ok 1000 0 [(21, .d (.bool false)), (65, .d (.bool false)), (109, .d (.bool true))] [decide (0 ≤ IntKind.i64.wrap n.kind), decide (IntKind.i64.wrap n.kind ≤ 1000000000), true, true, decide ((Nat.cast (R := Int) (List.length n.data)) ≤ 1000000000), true, true, decide (0 ≤ n.first), decide (n.first ≤ 1000000000), true, true, decide ((nmR (IntKind.i64.wrap n.kind) (1) ++ nmR (Nat.cast (R := Int) (List.length n.data)) (2) ++ nmR n.first (4)).length + List.length n.data ≤ 2 ^ 62)] [(.d (.bool (n.1 == 1)), .d (.bool false)), (.d (.bool (n.1 == 2)), .d (.bool false)), (.d (.bool (n.1 == 3)), .d (.bool true))] rfl (by kernel_rfl : runEnd (cfT trC) true _ 1000 0 _ _ (ini 124 [.d (nD n)] []) = some (.d (.str (nmR (IntKind.i64.wrap n.1) (1) ++ nmR (Nat.cast (R := Int) (List.length n.4)) (2) ++ nmR n.2 (4) ++ n.4)), [], _, _)) (by refine ⟨?_, ?_, ?_, ?_, ?_, ?_, ?_, ?_, ?_, ?_, ?_, ?_, trivial⟩ <;> (first | rfl | (rw [hw]; exact decide_eq_true (by omega)) | exact decide_eq_true (by omega) | exact decide_eq_true (by simp only [List.length_append, nmR_1, nmR_2, nmR_4, num2_len, num4_len, List.length_cons, List.length_nil]; omega))) ⟨le_bool h21, le_bool h65, le_bool h109, trivial⟩ ⟨by first | (have e : n.kind = 3 := eq_of_beq h109; have ec : n.cells = [] := (by rcases hkn with ⟨q, _⟩ | ⟨q, _, _⟩ | ⟨q, ec, ed⟩ | ⟨q, ec, ed⟩ <;> first | exact ec | omega); rw [hw, nmR_1, nmR_2, nmR_4, hbk, byAll_nil ec (by omega)]) | (have n1 : n.kind ≠ 1 := beq_eq_false_iff_ne.1 h21; have n2 : n.kind ≠ 2 := beq_eq_false_iff_ne.1 h65; have n3 : n.kind ≠ 3 := beq_eq_false_iff_ne.1 h109; have ec : n.cells = [] ∧ n.data = [] := (by rcases hkn with ⟨q, _⟩ | ⟨q, _, _⟩ | ⟨q, ec, ed⟩ | ⟨q, ec, ed⟩ <;> first | exact ⟨ec, ed⟩ | omega); rw [hw, nmR_1, nmR_4, hbk, byAll_nil ec.1 n1, ec.2, show num2 (Nat.cast (R := Int) (List.length ([] : Bs))) = [0, 0] from by decide]; simp), rfl⟩
      | false =>
        exact WK.fin ok 1000 0 [(21, .d (.bool false)), (65, .d (.bool false)), (109, .d (.bool false))] [decide (0 ≤ IntKind.i64.wrap n.kind), decide (IntKind.i64.wrap n.kind ≤ 1000000000), true, true, true, true, true, decide (0 ≤ n.first), decide (n.first ≤ 1000000000), true, true] [(.d (.bool (n.1 == 1)), .d (.bool false)), (.d (.bool (n.1 == 2)), .d (.bool false)), (.d (.bool (n.1 == 3)), .d (.bool false))] rfl (by kernel_rfl : runEnd (cfT trC) true _ 1000 0 _ _ (ini 124 [.d (nD n)] []) = some (.d (.str (nmR (IntKind.i64.wrap n.1) (1) ++ [(0 : UInt8), (0 : UInt8)] ++ nmR n.2 (4))), [], _, _)) (by refine ⟨?_, ?_, ?_, ?_, ?_, ?_, ?_, ?_, ?_, ?_, ?_, trivial⟩ <;> (first | rfl | (rw [hw]; exact decide_eq_true (by omega)) | exact decide_eq_true (by omega) | exact decide_eq_true (by simp only [List.length_append, nmR_1, nmR_2, nmR_4, num2_len, num4_len, List.length_cons, List.length_nil]; omega))) ⟨le_bool h21, le_bool h65, le_bool h109, trivial⟩ ⟨by first | (have e : n.kind = 3 := eq_of_beq h109; have ec : n.cells = [] := (by rcases hkn with ⟨q, _⟩ | ⟨q, _, _⟩ | ⟨q, ec, ed⟩ | ⟨q, ec, ed⟩ <;> first | exact ec | omega); rw [hw, nmR_1, nmR_2, nmR_4, hbk, byAll_nil ec (by omega)]) | (have n1 : n.kind ≠ 1 := beq_eq_false_iff_ne.1 h21; have n2 : n.kind ≠ 2 := beq_eq_false_iff_ne.1 h65; have n3 : n.kind ≠ 3 := beq_eq_false_iff_ne.1 h109; have ec : n.cells = [] ∧ n.data = [] := (by rcases hkn with ⟨q, _⟩ | ⟨q, _, _⟩ | ⟨q, ec, ed⟩ | ⟨q, ec, ed⟩ <;> first | exact ⟨ec, ed⟩ | omega); rw [hw, nmR_1, nmR_4, hbk, byAll_nil ec.1 n1, ec.2, show num2 (Nat.cast (R := Int) (List.length ([] : Bs))) = [0, 0] from by decide]; simp), rfl⟩
end Go.Proofs.Ytchmeldlpoimnaa
