/-
  The reference's May: it is the layer's own.
-/
import Derived.Test.YtchmeldlpoimnaaAmR1
namespace Go.Proofs.Ytchmeldlpoimnaa
open Go.RowKit Am IntWalk
set_option maxRecDepth 100000
set_option linter.unusedVariables false
set_option linter.unusedSimpArgs false

abbrev Ends (rs : List ResultVar) (v : RV) : SSt → Prop := fun s => ∃ r objs' c, finish (Env.of Try.prog) true 0 rs s.R s.O = some (r, objs', c) ∧ (∀ b ∈ c, b = true) ∧ r = v ∧ objs' = []

theorem rise_loop (l : List Cel) (hn : l.length ≤ 500000) : WK Try.prog 0 (stackAt riC 0) (riS l 1).den (Ends (Try.f73.results.toList) (.d (.bool (riseB l)))) := by
  have ok := cfT_ok trA_ok
  refine WK.rec' (fun i => riS l i) (fun i => 1 ≤ i ∧ ∀ j, 1 ≤ j → j < i → upAt l j = true) (fun i => l.length - i) ?_ 1 ⟨by omega, fun j h => by omega⟩
  rintro i ⟨h1, hb⟩ ih
  obtain ⟨c, hcd⟩ : ∃ c, ndAt l i = c := ⟨_, rfl⟩
  obtain ⟨p, hpd⟩ : ∃ p, ndAt l (i - 1) = p := ⟨_, rfl⟩
  have hml : (l.map cD).length = l.length := List.length_map ..
  have hlt : decide ((Nat.cast (R := Int) i) < (Nat.cast (R := Int) (List.map cD l).length)) = true → i < l.length := fun h => by have := of_decide_eq_true h; omega
  have hc : i < l.length → (l.map cD).getD i .nilp = cD c := fun h => hcd ▸ getD_cD _ _ h
  have hp : i < l.length → (l.map cD).getD (i - 1) .nilp = cD p := fun h => hpd ▸ getD_cD _ _ (by omega)
  cases h7 : (decide ((Nat.cast (R := Int) i) < (Nat.cast (R := Int) (List.map cD l).length)) : Bool) with
  | true =>
    cases h22 : (!Go.Op.bytesLess p.key c.key : Bool) with
    | true =>
      exact WK.fin ok 1000 0 [(9, .d (.int .i64 (Nat.cast (R := Int) (i + 1)))), (12, .d (.int .i64 (Nat.cast (R := Int) (i - 1)))), (13, .iptr (.agg [.str p.1, .int .i64 p.2, .str p.3, .int .i64 p.4]) 0), (18, .iptr (.agg [.str c.1, .int .i64 c.2, .str c.3, .int .i64 c.4]) 0), (7, .d (.bool true)), (22, .d (.bool true))] [decide (0 ≤ (Nat.cast (R := Int) (i - 1)) ∧ (Nat.cast (R := Int) (i - 1)) < (Nat.cast (R := Int) (List.map cD l).length)), decide (0 ≤ (Nat.cast (R := Int) i) ∧ (Nat.cast (R := Int) i) < (Nat.cast (R := Int) (List.map cD l).length))] [(.d (.bool (decide ((Nat.cast (R := Int) i) < (Nat.cast (R := Int) (List.map cD l).length)))), .d (.bool true)), (.d (.int .i64 (IntKind.i64.wrap ((Nat.cast (R := Int) i) - 1))), .d (.int .i64 (Nat.cast (R := Int) (i - 1)))), (.iptr ((List.map cD l).getD (Nat.cast (R := Int) (i - 1)).toNat .nilp) 0, .iptr (.agg [.str p.1, .int .i64 p.2, .str p.3, .int .i64 p.4]) 0), (.iptr ((List.map cD l).getD (Nat.cast (R := Int) i).toNat .nilp) 0, .iptr (.agg [.str c.1, .int .i64 c.2, .str c.3, .int .i64 c.4]) 0), (.d (.bool !Go.Op.bytesLess p.key c.key), .d (.bool true))] rfl (by kernel_rfl : runEnd (cfT trA) true _ 1000 0 _ _ (riS l i) = some (.d (.bool false), [], _, _)) (by refine ⟨?_, ?_, trivial⟩ <;> (first | rfl | exact decide_eq_true (by have := hlt h7; omega))) (by refine ⟨le_bool h7, ?_, ?_, ?_, le_bool h22, trivial⟩ <;> (first | (refine .of_eq ?_; rw [wrap_succ (by have := hlt h7; omega)]; done) | (refine .of_eq ?_; rw [wrap_pred (by have := hlt h7; omega) (by omega)]; done) | (refine .of_eq ?_; rw [Int.toNat_natCast, hp (hlt h7)]; rfl) | (refine .of_eq ?_; rw [Int.toNat_natCast, hc (hlt h7)]; rfl))) ⟨by first | (have q := hlt h7; simp at h22; have : riseB l = false := (by rw [riseB, List.all_eq_false]; exact ⟨i, by simp [q], by simp [upAt, hcd, hpd, h22]; omega⟩); rw [this]) | (have : riseB l = true := (by rw [riseB, List.all_eq_true]; intro j hj; simp at hj h7; rcases Nat.eq_zero_or_pos j with e | e; (subst e; rfl); (rw [hb j e (by omega)]; simp)); rw [this]), rfl⟩
    | false =>
      refine WK.segA ok 1000 0 [(9, .d (.int .i64 (Nat.cast (R := Int) (i + 1)))), (12, .d (.int .i64 (Nat.cast (R := Int) (i - 1)))), (13, .iptr (.agg [.str p.1, .int .i64 p.2, .str p.3, .int .i64 p.4]) 0), (18, .iptr (.agg [.str c.1, .int .i64 c.2, .str c.3, .int .i64 c.4]) 0), (7, .d (.bool true)), (22, .d (.bool false))] [] [0, 3] [decide (0 ≤ (Nat.cast (R := Int) (i - 1)) ∧ (Nat.cast (R := Int) (i - 1)) < (Nat.cast (R := Int) (List.map cD l).length)), decide (0 ≤ (Nat.cast (R := Int) i) ∧ (Nat.cast (R := Int) i) < (Nat.cast (R := Int) (List.map cD l).length))] [(.d (.bool (decide ((Nat.cast (R := Int) i) < (Nat.cast (R := Int) (List.map cD l).length)))), .d (.bool true)), (.d (.int .i64 (IntKind.i64.wrap ((Nat.cast (R := Int) i) - 1))), .d (.int .i64 (Nat.cast (R := Int) (i - 1)))), (.iptr ((List.map cD l).getD (Nat.cast (R := Int) (i - 1)).toNat .nilp) 0, .iptr (.agg [.str p.1, .int .i64 p.2, .str p.3, .int .i64 p.4]) 0), (.iptr ((List.map cD l).getD (Nat.cast (R := Int) i).toNat .nilp) 0, .iptr (.agg [.str c.1, .int .i64 c.2, .str c.3, .int .i64 c.4]) 0), (.d (.bool !Go.Op.bytesLess p.key c.key), .d (.bool false)), (.d (.int .i64 (IntKind.i64.wrap ((Nat.cast (R := Int) i) + 1))), .d (.int .i64 (Nat.cast (R := Int) (i + 1))))] rfl (by kernel_rfl : runSegA (cfT trA) 1000 0 _ _ _ _ (riS l i) = some (stackAt riC 0, riS l (i + 1), _, _)) (by refine ⟨?_, ?_, trivial⟩ <;> (first | rfl | exact decide_eq_true (by have := hlt h7; omega))) (by refine ⟨le_bool h7, ?_, ?_, ?_, le_bool h22, ?_, trivial⟩ <;> (first | (refine .of_eq ?_; rw [wrap_succ (by have := hlt h7; omega)]; done) | (refine .of_eq ?_; rw [wrap_pred (by have := hlt h7; omega) (by omega)]; done) | (refine .of_eq ?_; rw [Int.toNat_natCast, hp (hlt h7)]; rfl) | (refine .of_eq ?_; rw [Int.toNat_natCast, hc (hlt h7)]; rfl))) ?_
      refine ih (i + 1) ⟨by omega, fun j hj1 hj => ?_⟩ (by have := hlt h7; omega)
      rcases Nat.lt_or_ge j i with h | h
      · exact hb j hj1 h
      · obtain rfl : j = i := by omega
        simpa [upAt, hcd, hpd] using h22
  | false =>
    exact WK.fin ok 1000 0 [(9, .d (.int .i64 (Nat.cast (R := Int) (i + 1)))), (12, .d (.int .i64 (Nat.cast (R := Int) (i - 1)))), (13, .iptr (.agg [.str p.1, .int .i64 p.2, .str p.3, .int .i64 p.4]) 0), (18, .iptr (.agg [.str c.1, .int .i64 c.2, .str c.3, .int .i64 c.4]) 0), (7, .d (.bool false))] [] [(.d (.bool (decide ((Nat.cast (R := Int) i) < (Nat.cast (R := Int) (List.map cD l).length)))), .d (.bool false))] rfl (by kernel_rfl : runEnd (cfT trA) true _ 1000 0 _ _ (riS l i) = some (.d (.bool true), [], _, _)) trivial ⟨le_bool h7, trivial⟩ ⟨by first | (have q := hlt h7; simp at h22; have : riseB l = false := (by rw [riseB, List.all_eq_false]; exact ⟨i, by simp [q], by simp [upAt, hcd, hpd, h22]; omega⟩); rw [this]) | (have : riseB l = true := (by rw [riseB, List.all_eq_true]; intro j hj; simp at hj h7; rcases Nat.eq_zero_or_pos j with e | e; (subst e; rfl); (rw [hb j e (by omega)]; simp)); rw [this]), rfl⟩
theorem rise_c (l : List Cel) (hn : l.length ≤ 500000) : C Try.prog 73 [.d (.lst 4 (l.map cD) false)] [] (fun r o => r = .d (.bool (riseB l)) ∧ o = []) := by
  have ok := cfT_ok trA_ok
  refine C_of_run (fn := Try.f73) (body := riC) true (by kernel_rfl) (by kernel_rfl) (by kernel_rfl) ?_
  refine WK.segA ok 1000 0 [] [] [0, 3] [] [] rfl (by kernel_rfl : runSegA (cfT trA) 1000 0 _ _ _ _ (ini 23 [.d (.lst 4 (l.map cD) false)] []) = some (stackAt riC 0, riS l 1, _, _)) trivial trivial ?_
  exact rise_loop l hn
theorem rise_ent : EntOk Try.prog 73 (e1 riseG) := by
  refine ent1 fun x y c hg hc => ?_
  unfold riseG at hg
  split at hg
  · rename_i els
    simp only [Option.some.injEq, Prod.mk.injEq] at hg
    obtain ⟨rfl, rfl⟩ := hg
    have h0 : els.all isCel = true := hc _ (.head _)
    have h1 : els.length ≤ 500000 := of_decide_eq_true (hc _ (.tail _ (.head _)))
    have := rise_c (els.map toCel) (by rw [List.length_map]; exact h1)
    rw [← map_toCel h0] at this
    exact this
  · cases hg
theorem trB0_ok : EntsOk Try.prog trB0 := .cons rise_ent trA_ok

def rcB (k : Int) (c : Cel) : Bool :=
  decide (c.key.length ≤ 100) && (if k == 1 then decide (0 ≤ c.size) && decide (c.size ≤ 4000) && (if decide (c.size ≤ 100) then ((c.loc.length : Int) == c.size) && (c.page == 0) else ((c.loc.length : Int) == 100) && pageB c.page 1) else (c.size == 0) && (c.loc == []) && pageB c.page 1)
def okN (n : Nod) (i : Nat) : Bool := riseB n.cells && (List.range i).all fun j => rcB n.kind (ndAt n.cells j)
theorem okN_succ (n : Nod) (i : Nat) : okN n (i + 1) = (okN n i && rcB n.kind (ndAt n.cells i)) := by
  simp only [okN, List.range_succ, List.all_append, List.all_cons, List.all_nil, Bool.and_true, Bool.and_assoc]
def mayR (n : Nod) : Bool :=
  if n.kind == 1 then okN n n.cells.length && (n.first == 0) && (n.data == []) else
  if n.kind == 2 then okN n n.cells.length && pageB n.first 1 && (n.data == []) && decide (0 < n.cells.length) else
  if n.kind == 3 then pageB n.first 0 && decide (n.cells.length = 0) && !(n.data == []) && decide ((n.data.length : Int) ≤ 505) else
  if n.kind == 4 then pageB n.first 0 && decide (n.cells.length = 0) && (n.data == []) else false

theorem mayR_loop (n : Nod) (hn : n.cells.length ≤ 500000) : WK Try.prog 0 (stackAt mrC 0) (mrS n (riseB n.cells) 0).den (Ends (Try.f32.results.toList) (.d (.bool (mayR n)))) := by
  have ok := cfT_ok trB0_ok
  refine WK.rec' (fun (q : Bool × Nat) => mrS n q.1 q.2) (fun q => q.2 ≤ n.cells.length ∧ q.1 = okN n q.2) (fun q => n.cells.length - q.2) ?_ (riseB n.cells, 0) ⟨by simp, by simp [okN]⟩
  rintro ⟨b, i⟩ ⟨hi, hb⟩ ih
  simp only at hi hb ⊢
  obtain ⟨c, hcd⟩ : ∃ c, ndAt n.cells i = c := ⟨_, rfl⟩
  have hml : (n.cells.map cD).length = n.cells.length := List.length_map ..
  have hlt : decide ((Nat.cast (R := Int) i) < (Nat.cast (R := Int) (List.map cD n.cells).length)) = true → i < n.cells.length := fun h => by have := of_decide_eq_true h; omega
  have hend : decide ((Nat.cast (R := Int) i) < (Nat.cast (R := Int) (List.map cD n.cells).length)) = false → okN n n.cells.length = b := fun h => by
    have := of_decide_eq_false h
    have : i = n.cells.length := by omega
    rw [hb, this]
  have hc : i < n.cells.length → (n.cells.map cD).getD i .nilp = cD c := fun h => hcd ▸ getD_cD _ _ h
  have hok : okN n (i + 1) = (b && rcB n.kind c) := by rw [okN_succ, ← hb, hcd]
  cases b with
  | true =>
    cases h13 : (decide ((Nat.cast (R := Int) i) < (Nat.cast (R := Int) (List.map cD n.cells).length)) : Bool) with
    | true =>
      cases h30 : (n.1 == 1 : Bool) with
      | true =>
        cases h32 : (decide ((Nat.cast (R := Int) (List.length c.key)) ≤ 100) : Bool) with
        | true =>
          cases h37 : (decide (0 ≤ c.size) : Bool) with
          | true =>
            cases h44 : (decide (c.size ≤ 100) : Bool) with
            | true =>
              cases h46 : (decide (c.size ≤ 4000) : Bool) with
              | true =>
                cases h54 : ((Nat.cast (R := Int) (List.length c.3)) == c.2 : Bool) with
                | true =>
                  refine WK.segA ok 1000 0 [(15, .d (.int .i64 (Nat.cast (R := Int) (i + 1)))), (19, .iptr (.agg [.str c.1, .int .i64 c.2, .str c.3, .int .i64 c.4]) 0), (13, .d (.bool true)), (30, .d (.bool true)), (32, .d (.bool true)), (37, .d (.bool true)), (44, .d (.bool true)), (46, .d (.bool true)), (54, .d (.bool true))] [] [1,3,4] [decide (0 ≤ (Nat.cast (R := Int) i) ∧ (Nat.cast (R := Int) i) < (Nat.cast (R := Int) (List.map cD n.cells).length))] [(.d (.bool (decide ((Nat.cast (R := Int) i) < (Nat.cast (R := Int) (List.map cD n.cells).length)))), .d (.bool true)), (.iptr ((List.map cD n.cells).getD (Nat.cast (R := Int) i).toNat .nilp) 0, .iptr (.agg [.str c.1, .int .i64 c.2, .str c.3, .int .i64 c.4]) 0), (.d (.bool (n.1 == 1)), .d (.bool true)), (.d (.bool (decide ((Nat.cast (R := Int) (List.length c.key)) ≤ 100))), .d (.bool true)), (.d (.bool (decide (0 ≤ c.size))), .d (.bool true)), (.d (.bool (decide (c.size ≤ 100))), .d (.bool true)), (.d (.bool (decide (c.size ≤ 4000))), .d (.bool true)), (.d (.bool ((Nat.cast (R := Int) (List.length c.3)) == c.2)), .d (.bool true)), (.d (.int .i64 (IntKind.i64.wrap ((Nat.cast (R := Int) i) + 1))), .d (.int .i64 (Nat.cast (R := Int) (i + 1))))] rfl (by kernel_rfl : runSegA (cfT trB0) 1000 0 _ _ _ _ (mrS n true i) = some (stackAt mrC 0, mrS n (c.4 == 0) (i + 1), _, _)) ⟨(by first | rfl | exact decide_eq_true (by have := hlt h13; omega)), trivial⟩ (by refine ⟨le_bool h13, ?_, le_bool h30, le_bool h32, le_bool h37, le_bool h44, le_bool h46, le_bool h54, ?_, trivial⟩ <;> (first | (refine .of_eq ?_; rw [wrap_succ (by omega)]; done) | (refine .of_eq ?_; rw [Int.toNat_natCast, hc (hlt h13)]; rfl))) ?_
                  refine ih (_, i + 1) ⟨hlt h13, ?_⟩ (by have := hlt h13; simp only; omega)
                  simp only
                  rw [hok]
                  clear hok hend ih hc ok hb
                  first | (rw [Bool.false_and]; done) | (simp at *; simp [rcB, *]; done) | (simp at *; simp [rcB, *]; omega) | (simp at *; simp [rcB, *]; by_cases q : 1 ≤ c.page <;> by_cases q2 : c.size ≤ 100 <;> simp [pageB, q, q2] <;> omega)
                | false =>
                  refine WK.segA ok 1000 0 [(15, .d (.int .i64 (Nat.cast (R := Int) (i + 1)))), (19, .iptr (.agg [.str c.1, .int .i64 c.2, .str c.3, .int .i64 c.4]) 0), (13, .d (.bool true)), (30, .d (.bool true)), (32, .d (.bool true)), (37, .d (.bool true)), (44, .d (.bool true)), (46, .d (.bool true)), (54, .d (.bool false))] [] [1,3,4] [decide (0 ≤ (Nat.cast (R := Int) i) ∧ (Nat.cast (R := Int) i) < (Nat.cast (R := Int) (List.map cD n.cells).length))] [(.d (.bool (decide ((Nat.cast (R := Int) i) < (Nat.cast (R := Int) (List.map cD n.cells).length)))), .d (.bool true)), (.iptr ((List.map cD n.cells).getD (Nat.cast (R := Int) i).toNat .nilp) 0, .iptr (.agg [.str c.1, .int .i64 c.2, .str c.3, .int .i64 c.4]) 0), (.d (.bool (n.1 == 1)), .d (.bool true)), (.d (.bool (decide ((Nat.cast (R := Int) (List.length c.key)) ≤ 100))), .d (.bool true)), (.d (.bool (decide (0 ≤ c.size))), .d (.bool true)), (.d (.bool (decide (c.size ≤ 100))), .d (.bool true)), (.d (.bool (decide (c.size ≤ 4000))), .d (.bool true)), (.d (.bool ((Nat.cast (R := Int) (List.length c.3)) == c.2)), .d (.bool false)), (.d (.int .i64 (IntKind.i64.wrap ((Nat.cast (R := Int) i) + 1))), .d (.int .i64 (Nat.cast (R := Int) (i + 1))))] rfl (by kernel_rfl : runSegA (cfT trB0) 1000 0 _ _ _ _ (mrS n true i) = some (stackAt mrC 0, mrS n false (i + 1), _, _)) ⟨(by first | rfl | exact decide_eq_true (by have := hlt h13; omega)), trivial⟩ (by refine ⟨le_bool h13, ?_, le_bool h30, le_bool h32, le_bool h37, le_bool h44, le_bool h46, le_bool h54, ?_, trivial⟩ <;> (first | (refine .of_eq ?_; rw [wrap_succ (by omega)]; done) | (refine .of_eq ?_; rw [Int.toNat_natCast, hc (hlt h13)]; rfl))) ?_
                  refine ih (_, i + 1) ⟨hlt h13, ?_⟩ (by have := hlt h13; simp only; omega)
                  simp only
                  rw [hok]
                  clear hok hend ih hc ok hb
                  first | (rw [Bool.false_and]; done) | (simp at *; simp [rcB, *]; done) | (simp at *; simp [rcB, *]; omega) | (simp at *; simp [rcB, *]; by_cases q : 1 ≤ c.page <;> by_cases q2 : c.size ≤ 100 <;> simp [pageB, q, q2] <;> omega)
              | false =>
                refine WK.segA ok 1000 0 [(15, .d (.int .i64 (Nat.cast (R := Int) (i + 1)))), (19, .iptr (.agg [.str c.1, .int .i64 c.2, .str c.3, .int .i64 c.4]) 0), (13, .d (.bool true)), (30, .d (.bool true)), (32, .d (.bool true)), (37, .d (.bool true)), (44, .d (.bool true)), (46, .d (.bool false))] [] [1,3,4] [decide (0 ≤ (Nat.cast (R := Int) i) ∧ (Nat.cast (R := Int) i) < (Nat.cast (R := Int) (List.map cD n.cells).length))] [(.d (.bool (decide ((Nat.cast (R := Int) i) < (Nat.cast (R := Int) (List.map cD n.cells).length)))), .d (.bool true)), (.iptr ((List.map cD n.cells).getD (Nat.cast (R := Int) i).toNat .nilp) 0, .iptr (.agg [.str c.1, .int .i64 c.2, .str c.3, .int .i64 c.4]) 0), (.d (.bool (n.1 == 1)), .d (.bool true)), (.d (.bool (decide ((Nat.cast (R := Int) (List.length c.key)) ≤ 100))), .d (.bool true)), (.d (.bool (decide (0 ≤ c.size))), .d (.bool true)), (.d (.bool (decide (c.size ≤ 100))), .d (.bool true)), (.d (.bool (decide (c.size ≤ 4000))), .d (.bool false)), (.d (.int .i64 (IntKind.i64.wrap ((Nat.cast (R := Int) i) + 1))), .d (.int .i64 (Nat.cast (R := Int) (i + 1))))] rfl (by kernel_rfl : runSegA (cfT trB0) 1000 0 _ _ _ _ (mrS n true i) = some (stackAt mrC 0, mrS n false (i + 1), _, _)) ⟨(by first | rfl | exact decide_eq_true (by have := hlt h13; omega)), trivial⟩ (by refine ⟨le_bool h13, ?_, le_bool h30, le_bool h32, le_bool h37, le_bool h44, le_bool h46, ?_, trivial⟩ <;> (first | (refine .of_eq ?_; rw [wrap_succ (by omega)]; done) | (refine .of_eq ?_; rw [Int.toNat_natCast, hc (hlt h13)]; rfl))) ?_
                refine ih (_, i + 1) ⟨hlt h13, ?_⟩ (by have := hlt h13; simp only; omega)
                simp only
                rw [hok]
                clear hok hend ih hc ok hb
                first | (rw [Bool.false_and]; done) | (simp at *; simp [rcB, *]; done) | (simp at *; simp [rcB, *]; omega) | (simp at *; simp [rcB, *]; by_cases q : 1 ≤ c.page <;> by_cases q2 : c.size ≤ 100 <;> simp [pageB, q, q2] <;> omega)
            | false =>
              cases h60 : (decide (c.size ≤ 4000) : Bool) with
              | true =>
                cases h66 : ((Nat.cast (R := Int) (List.length c.3)) == 100 : Bool) with
                | true =>
                  refine WK.segA ok 1000 0 [(15, .d (.int .i64 (Nat.cast (R := Int) (i + 1)))), (19, .iptr (.agg [.str c.1, .int .i64 c.2, .str c.3, .int .i64 c.4]) 0), (13, .d (.bool true)), (30, .d (.bool true)), (32, .d (.bool true)), (37, .d (.bool true)), (44, .d (.bool false)), (60, .d (.bool true)), (66, .d (.bool true))] [] [1,3,4] [decide (0 ≤ (Nat.cast (R := Int) i) ∧ (Nat.cast (R := Int) i) < (Nat.cast (R := Int) (List.map cD n.cells).length))] [(.d (.bool (decide ((Nat.cast (R := Int) i) < (Nat.cast (R := Int) (List.map cD n.cells).length)))), .d (.bool true)), (.iptr ((List.map cD n.cells).getD (Nat.cast (R := Int) i).toNat .nilp) 0, .iptr (.agg [.str c.1, .int .i64 c.2, .str c.3, .int .i64 c.4]) 0), (.d (.bool (n.1 == 1)), .d (.bool true)), (.d (.bool (decide ((Nat.cast (R := Int) (List.length c.key)) ≤ 100))), .d (.bool true)), (.d (.bool (decide (0 ≤ c.size))), .d (.bool true)), (.d (.bool (decide (c.size ≤ 100))), .d (.bool false)), (.d (.bool (decide (c.size ≤ 4000))), .d (.bool true)), (.d (.bool ((Nat.cast (R := Int) (List.length c.3)) == 100)), .d (.bool true)), (.d (.int .i64 (IntKind.i64.wrap ((Nat.cast (R := Int) i) + 1))), .d (.int .i64 (Nat.cast (R := Int) (i + 1))))] rfl (by kernel_rfl : runSegA (cfT trB0) 1000 0 _ _ _ _ (mrS n true i) = some (stackAt mrC 0, mrS n (pageB c.4 (1)) (i + 1), _, _)) ⟨(by first | rfl | exact decide_eq_true (by have := hlt h13; omega)), trivial⟩ (by refine ⟨le_bool h13, ?_, le_bool h30, le_bool h32, le_bool h37, le_bool h44, le_bool h60, le_bool h66, ?_, trivial⟩ <;> (first | (refine .of_eq ?_; rw [wrap_succ (by omega)]; done) | (refine .of_eq ?_; rw [Int.toNat_natCast, hc (hlt h13)]; rfl))) ?_
                  refine ih (_, i + 1) ⟨hlt h13, ?_⟩ (by have := hlt h13; simp only; omega)
                  simp only
                  rw [hok]
                  clear hok hend ih hc ok hb
                  first | (rw [Bool.false_and]; done) | (simp at *; simp [rcB, *]; done) | (simp at *; simp [rcB, *]; omega) | (simp at *; simp [rcB, *]; by_cases q : 1 ≤ c.page <;> by_cases q2 : c.size ≤ 100 <;> simp [pageB, q, q2] <;> omega)
                | false =>
                  refine WK.segA ok 1000 0 [(15, .d (.int .i64 (Nat.cast (R := Int) (i + 1)))), (19, .iptr (.agg [.str c.1, .int .i64 c.2, .str c.3, .int .i64 c.4]) 0), (13, .d (.bool true)), (30, .d (.bool true)), (32, .d (.bool true)), (37, .d (.bool true)), (44, .d (.bool false)), (60, .d (.bool true)), (66, .d (.bool false))] [] [1,3,4] [decide (0 ≤ (Nat.cast (R := Int) i) ∧ (Nat.cast (R := Int) i) < (Nat.cast (R := Int) (List.map cD n.cells).length))] [(.d (.bool (decide ((Nat.cast (R := Int) i) < (Nat.cast (R := Int) (List.map cD n.cells).length)))), .d (.bool true)), (.iptr ((List.map cD n.cells).getD (Nat.cast (R := Int) i).toNat .nilp) 0, .iptr (.agg [.str c.1, .int .i64 c.2, .str c.3, .int .i64 c.4]) 0), (.d (.bool (n.1 == 1)), .d (.bool true)), (.d (.bool (decide ((Nat.cast (R := Int) (List.length c.key)) ≤ 100))), .d (.bool true)), (.d (.bool (decide (0 ≤ c.size))), .d (.bool true)), (.d (.bool (decide (c.size ≤ 100))), .d (.bool false)), (.d (.bool (decide (c.size ≤ 4000))), .d (.bool true)), (.d (.bool ((Nat.cast (R := Int) (List.length c.3)) == 100)), .d (.bool false)), (.d (.int .i64 (IntKind.i64.wrap ((Nat.cast (R := Int) i) + 1))), .d (.int .i64 (Nat.cast (R := Int) (i + 1))))] rfl (by kernel_rfl : runSegA (cfT trB0) 1000 0 _ _ _ _ (mrS n true i) = some (stackAt mrC 0, mrS n false (i + 1), _, _)) ⟨(by first | rfl | exact decide_eq_true (by have := hlt h13; omega)), trivial⟩ (by refine ⟨le_bool h13, ?_, le_bool h30, le_bool h32, le_bool h37, le_bool h44, le_bool h60, le_bool h66, ?_, trivial⟩ <;> (first | (refine .of_eq ?_; rw [wrap_succ (by omega)]; done) | (refine .of_eq ?_; rw [Int.toNat_natCast, hc (hlt h13)]; rfl))) ?_
                  refine ih (_, i + 1) ⟨hlt h13, ?_⟩ (by have := hlt h13; simp only; omega)
                  simp only
                  rw [hok]
                  clear hok hend ih hc ok hb
                  first | (rw [Bool.false_and]; done) | (simp at *; simp [rcB, *]; done) | (simp at *; simp [rcB, *]; omega) | (simp at *; simp [rcB, *]; by_cases q : 1 ≤ c.page <;> by_cases q2 : c.size ≤ 100 <;> simp [pageB, q, q2] <;> omega)
              | false =>
                refine WK.segA ok 1000 0 [(15, .d (.int .i64 (Nat.cast (R := Int) (i + 1)))), (19, .iptr (.agg [.str c.1, .int .i64 c.2, .str c.3, .int .i64 c.4]) 0), (13, .d (.bool true)), (30, .d (.bool true)), (32, .d (.bool true)), (37, .d (.bool true)), (44, .d (.bool false)), (60, .d (.bool false))] [] [1,3,4] [decide (0 ≤ (Nat.cast (R := Int) i) ∧ (Nat.cast (R := Int) i) < (Nat.cast (R := Int) (List.map cD n.cells).length))] [(.d (.bool (decide ((Nat.cast (R := Int) i) < (Nat.cast (R := Int) (List.map cD n.cells).length)))), .d (.bool true)), (.iptr ((List.map cD n.cells).getD (Nat.cast (R := Int) i).toNat .nilp) 0, .iptr (.agg [.str c.1, .int .i64 c.2, .str c.3, .int .i64 c.4]) 0), (.d (.bool (n.1 == 1)), .d (.bool true)), (.d (.bool (decide ((Nat.cast (R := Int) (List.length c.key)) ≤ 100))), .d (.bool true)), (.d (.bool (decide (0 ≤ c.size))), .d (.bool true)), (.d (.bool (decide (c.size ≤ 100))), .d (.bool false)), (.d (.bool (decide (c.size ≤ 4000))), .d (.bool false)), (.d (.int .i64 (IntKind.i64.wrap ((Nat.cast (R := Int) i) + 1))), .d (.int .i64 (Nat.cast (R := Int) (i + 1))))] rfl (by kernel_rfl : runSegA (cfT trB0) 1000 0 _ _ _ _ (mrS n true i) = some (stackAt mrC 0, mrS n false (i + 1), _, _)) ⟨(by first | rfl | exact decide_eq_true (by have := hlt h13; omega)), trivial⟩ (by refine ⟨le_bool h13, ?_, le_bool h30, le_bool h32, le_bool h37, le_bool h44, le_bool h60, ?_, trivial⟩ <;> (first | (refine .of_eq ?_; rw [wrap_succ (by omega)]; done) | (refine .of_eq ?_; rw [Int.toNat_natCast, hc (hlt h13)]; rfl))) ?_
                refine ih (_, i + 1) ⟨hlt h13, ?_⟩ (by have := hlt h13; simp only; omega)
                simp only
                rw [hok]
                clear hok hend ih hc ok hb
                first | (rw [Bool.false_and]; done) | (simp at *; simp [rcB, *]; done) | (simp at *; simp [rcB, *]; omega) | (simp at *; simp [rcB, *]; by_cases q : 1 ≤ c.page <;> by_cases q2 : c.size ≤ 100 <;> simp [pageB, q, q2] <;> omega)
          | false =>
            cases h44 : (decide (c.size ≤ 100) : Bool) with
            | true =>
              refine WK.segA ok 1000 0 [(15, .d (.int .i64 (Nat.cast (R := Int) (i + 1)))), (19, .iptr (.agg [.str c.1, .int .i64 c.2, .str c.3, .int .i64 c.4]) 0), (13, .d (.bool true)), (30, .d (.bool true)), (32, .d (.bool true)), (37, .d (.bool false)), (44, .d (.bool true))] [] [1,3,4] [decide (0 ≤ (Nat.cast (R := Int) i) ∧ (Nat.cast (R := Int) i) < (Nat.cast (R := Int) (List.map cD n.cells).length))] [(.d (.bool (decide ((Nat.cast (R := Int) i) < (Nat.cast (R := Int) (List.map cD n.cells).length)))), .d (.bool true)), (.iptr ((List.map cD n.cells).getD (Nat.cast (R := Int) i).toNat .nilp) 0, .iptr (.agg [.str c.1, .int .i64 c.2, .str c.3, .int .i64 c.4]) 0), (.d (.bool (n.1 == 1)), .d (.bool true)), (.d (.bool (decide ((Nat.cast (R := Int) (List.length c.key)) ≤ 100))), .d (.bool true)), (.d (.bool (decide (0 ≤ c.size))), .d (.bool false)), (.d (.bool (decide (c.size ≤ 100))), .d (.bool true)), (.d (.int .i64 (IntKind.i64.wrap ((Nat.cast (R := Int) i) + 1))), .d (.int .i64 (Nat.cast (R := Int) (i + 1))))] rfl (by kernel_rfl : runSegA (cfT trB0) 1000 0 _ _ _ _ (mrS n true i) = some (stackAt mrC 0, mrS n false (i + 1), _, _)) ⟨(by first | rfl | exact decide_eq_true (by have := hlt h13; omega)), trivial⟩ (by refine ⟨le_bool h13, ?_, le_bool h30, le_bool h32, le_bool h37, le_bool h44, ?_, trivial⟩ <;> (first | (refine .of_eq ?_; rw [wrap_succ (by omega)]; done) | (refine .of_eq ?_; rw [Int.toNat_natCast, hc (hlt h13)]; rfl))) ?_
              refine ih (_, i + 1) ⟨hlt h13, ?_⟩ (by have := hlt h13; simp only; omega)
              simp only
              rw [hok]
              clear hok hend ih hc ok hb
              first | (rw [Bool.false_and]; done) | (simp at *; simp [rcB, *]; done) | (simp at *; simp [rcB, *]; omega) | (simp at *; simp [rcB, *]; by_cases q : 1 ≤ c.page <;> by_cases q2 : c.size ≤ 100 <;> simp [pageB, q, q2] <;> omega)
            | false =>
              refine WK.segA ok 1000 0 [(15, .d (.int .i64 (Nat.cast (R := Int) (i + 1)))), (19, .iptr (.agg [.str c.1, .int .i64 c.2, .str c.3, .int .i64 c.4]) 0), (13, .d (.bool true)), (30, .d (.bool true)), (32, .d (.bool true)), (37, .d (.bool false)), (44, .d (.bool false))] [] [1,3,4] [decide (0 ≤ (Nat.cast (R := Int) i) ∧ (Nat.cast (R := Int) i) < (Nat.cast (R := Int) (List.map cD n.cells).length))] [(.d (.bool (decide ((Nat.cast (R := Int) i) < (Nat.cast (R := Int) (List.map cD n.cells).length)))), .d (.bool true)), (.iptr ((List.map cD n.cells).getD (Nat.cast (R := Int) i).toNat .nilp) 0, .iptr (.agg [.str c.1, .int .i64 c.2, .str c.3, .int .i64 c.4]) 0), (.d (.bool (n.1 == 1)), .d (.bool true)), (.d (.bool (decide ((Nat.cast (R := Int) (List.length c.key)) ≤ 100))), .d (.bool true)), (.d (.bool (decide (0 ≤ c.size))), .d (.bool false)), (.d (.bool (decide (c.size ≤ 100))), .d (.bool false)), (.d (.int .i64 (IntKind.i64.wrap ((Nat.cast (R := Int) i) + 1))), .d (.int .i64 (Nat.cast (R := Int) (i + 1))))] rfl (by kernel_rfl : runSegA (cfT trB0) 1000 0 _ _ _ _ (mrS n true i) = some (stackAt mrC 0, mrS n false (i + 1), _, _)) ⟨(by first | rfl | exact decide_eq_true (by have := hlt h13; omega)), trivial⟩ (by refine ⟨le_bool h13, ?_, le_bool h30, le_bool h32, le_bool h37, le_bool h44, ?_, trivial⟩ <;> (first | (refine .of_eq ?_; rw [wrap_succ (by omega)]; done) | (refine .of_eq ?_; rw [Int.toNat_natCast, hc (hlt h13)]; rfl))) ?_
              refine ih (_, i + 1) ⟨hlt h13, ?_⟩ (by have := hlt h13; simp only; omega)
              simp only
              rw [hok]
              clear hok hend ih hc ok hb
              first | (rw [Bool.false_and]; done) | (simp at *; simp [rcB, *]; done) | (simp at *; simp [rcB, *]; omega) | (simp at *; simp [rcB, *]; by_cases q : 1 ≤ c.page <;> by_cases q2 : c.size ≤ 100 <;> simp [pageB, q, q2] <;> omega)
        | false =>
          cases h44 : (decide (c.size ≤ 100) : Bool) with
          | true =>
            refine WK.segA ok 1000 0 [(15, .d (.int .i64 (Nat.cast (R := Int) (i + 1)))), (19, .iptr (.agg [.str c.1, .int .i64 c.2, .str c.3, .int .i64 c.4]) 0), (13, .d (.bool true)), (30, .d (.bool true)), (32, .d (.bool false)), (44, .d (.bool true))] [] [1,3,4] [decide (0 ≤ (Nat.cast (R := Int) i) ∧ (Nat.cast (R := Int) i) < (Nat.cast (R := Int) (List.map cD n.cells).length))] [(.d (.bool (decide ((Nat.cast (R := Int) i) < (Nat.cast (R := Int) (List.map cD n.cells).length)))), .d (.bool true)), (.iptr ((List.map cD n.cells).getD (Nat.cast (R := Int) i).toNat .nilp) 0, .iptr (.agg [.str c.1, .int .i64 c.2, .str c.3, .int .i64 c.4]) 0), (.d (.bool (n.1 == 1)), .d (.bool true)), (.d (.bool (decide ((Nat.cast (R := Int) (List.length c.key)) ≤ 100))), .d (.bool false)), (.d (.bool (decide (c.size ≤ 100))), .d (.bool true)), (.d (.int .i64 (IntKind.i64.wrap ((Nat.cast (R := Int) i) + 1))), .d (.int .i64 (Nat.cast (R := Int) (i + 1))))] rfl (by kernel_rfl : runSegA (cfT trB0) 1000 0 _ _ _ _ (mrS n true i) = some (stackAt mrC 0, mrS n false (i + 1), _, _)) ⟨(by first | rfl | exact decide_eq_true (by have := hlt h13; omega)), trivial⟩ (by refine ⟨le_bool h13, ?_, le_bool h30, le_bool h32, le_bool h44, ?_, trivial⟩ <;> (first | (refine .of_eq ?_; rw [wrap_succ (by omega)]; done) | (refine .of_eq ?_; rw [Int.toNat_natCast, hc (hlt h13)]; rfl))) ?_
            refine ih (_, i + 1) ⟨hlt h13, ?_⟩ (by have := hlt h13; simp only; omega)
            simp only
            rw [hok]
            clear hok hend ih hc ok hb
            first | (rw [Bool.false_and]; done) | (simp at *; simp [rcB, *]; done) | (simp at *; simp [rcB, *]; omega) | (simp at *; simp [rcB, *]; by_cases q : 1 ≤ c.page <;> by_cases q2 : c.size ≤ 100 <;> simp [pageB, q, q2] <;> omega)
          | false =>
            refine WK.segA ok 1000 0 [(15, .d (.int .i64 (Nat.cast (R := Int) (i + 1)))), (19, .iptr (.agg [.str c.1, .int .i64 c.2, .str c.3, .int .i64 c.4]) 0), (13, .d (.bool true)), (30, .d (.bool true)), (32, .d (.bool false)), (44, .d (.bool false))] [] [1,3,4] [decide (0 ≤ (Nat.cast (R := Int) i) ∧ (Nat.cast (R := Int) i) < (Nat.cast (R := Int) (List.map cD n.cells).length))] [(.d (.bool (decide ((Nat.cast (R := Int) i) < (Nat.cast (R := Int) (List.map cD n.cells).length)))), .d (.bool true)), (.iptr ((List.map cD n.cells).getD (Nat.cast (R := Int) i).toNat .nilp) 0, .iptr (.agg [.str c.1, .int .i64 c.2, .str c.3, .int .i64 c.4]) 0), (.d (.bool (n.1 == 1)), .d (.bool true)), (.d (.bool (decide ((Nat.cast (R := Int) (List.length c.key)) ≤ 100))), .d (.bool false)), (.d (.bool (decide (c.size ≤ 100))), .d (.bool false)), (.d (.int .i64 (IntKind.i64.wrap ((Nat.cast (R := Int) i) + 1))), .d (.int .i64 (Nat.cast (R := Int) (i + 1))))] rfl (by kernel_rfl : runSegA (cfT trB0) 1000 0 _ _ _ _ (mrS n true i) = some (stackAt mrC 0, mrS n false (i + 1), _, _)) ⟨(by first | rfl | exact decide_eq_true (by have := hlt h13; omega)), trivial⟩ (by refine ⟨le_bool h13, ?_, le_bool h30, le_bool h32, le_bool h44, ?_, trivial⟩ <;> (first | (refine .of_eq ?_; rw [wrap_succ (by omega)]; done) | (refine .of_eq ?_; rw [Int.toNat_natCast, hc (hlt h13)]; rfl))) ?_
            refine ih (_, i + 1) ⟨hlt h13, ?_⟩ (by have := hlt h13; simp only; omega)
            simp only
            rw [hok]
            clear hok hend ih hc ok hb
            first | (rw [Bool.false_and]; done) | (simp at *; simp [rcB, *]; done) | (simp at *; simp [rcB, *]; omega) | (simp at *; simp [rcB, *]; by_cases q : 1 ≤ c.page <;> by_cases q2 : c.size ≤ 100 <;> simp [pageB, q, q2] <;> omega)
      | false =>
        cases h72 : (decide ((Nat.cast (R := Int) (List.length c.key)) ≤ 100) : Bool) with
        | true =>
          cases h77 : (c.2 == 0 : Bool) with
          | true =>
            cases h82 : (c.3 == [] : Bool) with
            | true =>
              refine WK.segA ok 1000 0 [(15, .d (.int .i64 (Nat.cast (R := Int) (i + 1)))), (19, .iptr (.agg [.str c.1, .int .i64 c.2, .str c.3, .int .i64 c.4]) 0), (13, .d (.bool true)), (30, .d (.bool false)), (72, .d (.bool true)), (77, .d (.bool true)), (82, .d (.bool true))] [] [1,3,4] [decide (0 ≤ (Nat.cast (R := Int) i) ∧ (Nat.cast (R := Int) i) < (Nat.cast (R := Int) (List.map cD n.cells).length))] [(.d (.bool (decide ((Nat.cast (R := Int) i) < (Nat.cast (R := Int) (List.map cD n.cells).length)))), .d (.bool true)), (.iptr ((List.map cD n.cells).getD (Nat.cast (R := Int) i).toNat .nilp) 0, .iptr (.agg [.str c.1, .int .i64 c.2, .str c.3, .int .i64 c.4]) 0), (.d (.bool (n.1 == 1)), .d (.bool false)), (.d (.bool (decide ((Nat.cast (R := Int) (List.length c.key)) ≤ 100))), .d (.bool true)), (.d (.bool (c.2 == 0)), .d (.bool true)), (.d (.bool (c.3 == [])), .d (.bool true)), (.d (.int .i64 (IntKind.i64.wrap ((Nat.cast (R := Int) i) + 1))), .d (.int .i64 (Nat.cast (R := Int) (i + 1))))] rfl (by kernel_rfl : runSegA (cfT trB0) 1000 0 _ _ _ _ (mrS n true i) = some (stackAt mrC 0, mrS n (pageB c.4 (1)) (i + 1), _, _)) ⟨(by first | rfl | exact decide_eq_true (by have := hlt h13; omega)), trivial⟩ (by refine ⟨le_bool h13, ?_, le_bool h30, le_bool h72, le_bool h77, le_bool h82, ?_, trivial⟩ <;> (first | (refine .of_eq ?_; rw [wrap_succ (by omega)]; done) | (refine .of_eq ?_; rw [Int.toNat_natCast, hc (hlt h13)]; rfl))) ?_
              refine ih (_, i + 1) ⟨hlt h13, ?_⟩ (by have := hlt h13; simp only; omega)
              simp only
              rw [hok]
              clear hok hend ih hc ok hb
              first | (rw [Bool.false_and]; done) | (simp at *; simp [rcB, *]; done) | (simp at *; simp [rcB, *]; omega) | (simp at *; simp [rcB, *]; by_cases q : 1 ≤ c.page <;> by_cases q2 : c.size ≤ 100 <;> simp [pageB, q, q2] <;> omega)
            | false =>
              refine WK.segA ok 1000 0 [(15, .d (.int .i64 (Nat.cast (R := Int) (i + 1)))), (19, .iptr (.agg [.str c.1, .int .i64 c.2, .str c.3, .int .i64 c.4]) 0), (13, .d (.bool true)), (30, .d (.bool false)), (72, .d (.bool true)), (77, .d (.bool true)), (82, .d (.bool false))] [] [1,3,4] [decide (0 ≤ (Nat.cast (R := Int) i) ∧ (Nat.cast (R := Int) i) < (Nat.cast (R := Int) (List.map cD n.cells).length))] [(.d (.bool (decide ((Nat.cast (R := Int) i) < (Nat.cast (R := Int) (List.map cD n.cells).length)))), .d (.bool true)), (.iptr ((List.map cD n.cells).getD (Nat.cast (R := Int) i).toNat .nilp) 0, .iptr (.agg [.str c.1, .int .i64 c.2, .str c.3, .int .i64 c.4]) 0), (.d (.bool (n.1 == 1)), .d (.bool false)), (.d (.bool (decide ((Nat.cast (R := Int) (List.length c.key)) ≤ 100))), .d (.bool true)), (.d (.bool (c.2 == 0)), .d (.bool true)), (.d (.bool (c.3 == [])), .d (.bool false)), (.d (.int .i64 (IntKind.i64.wrap ((Nat.cast (R := Int) i) + 1))), .d (.int .i64 (Nat.cast (R := Int) (i + 1))))] rfl (by kernel_rfl : runSegA (cfT trB0) 1000 0 _ _ _ _ (mrS n true i) = some (stackAt mrC 0, mrS n false (i + 1), _, _)) ⟨(by first | rfl | exact decide_eq_true (by have := hlt h13; omega)), trivial⟩ (by refine ⟨le_bool h13, ?_, le_bool h30, le_bool h72, le_bool h77, le_bool h82, ?_, trivial⟩ <;> (first | (refine .of_eq ?_; rw [wrap_succ (by omega)]; done) | (refine .of_eq ?_; rw [Int.toNat_natCast, hc (hlt h13)]; rfl))) ?_
              refine ih (_, i + 1) ⟨hlt h13, ?_⟩ (by have := hlt h13; simp only; omega)
              simp only
              rw [hok]
              clear hok hend ih hc ok hb
              first | (rw [Bool.false_and]; done) | (simp at *; simp [rcB, *]; done) | (simp at *; simp [rcB, *]; omega) | (simp at *; simp [rcB, *]; by_cases q : 1 ≤ c.page <;> by_cases q2 : c.size ≤ 100 <;> simp [pageB, q, q2] <;> omega)
          | false =>
            refine WK.segA ok 1000 0 [(15, .d (.int .i64 (Nat.cast (R := Int) (i + 1)))), (19, .iptr (.agg [.str c.1, .int .i64 c.2, .str c.3, .int .i64 c.4]) 0), (13, .d (.bool true)), (30, .d (.bool false)), (72, .d (.bool true)), (77, .d (.bool false))] [] [1,3,4] [decide (0 ≤ (Nat.cast (R := Int) i) ∧ (Nat.cast (R := Int) i) < (Nat.cast (R := Int) (List.map cD n.cells).length))] [(.d (.bool (decide ((Nat.cast (R := Int) i) < (Nat.cast (R := Int) (List.map cD n.cells).length)))), .d (.bool true)), (.iptr ((List.map cD n.cells).getD (Nat.cast (R := Int) i).toNat .nilp) 0, .iptr (.agg [.str c.1, .int .i64 c.2, .str c.3, .int .i64 c.4]) 0), (.d (.bool (n.1 == 1)), .d (.bool false)), (.d (.bool (decide ((Nat.cast (R := Int) (List.length c.key)) ≤ 100))), .d (.bool true)), (.d (.bool (c.2 == 0)), .d (.bool false)), (.d (.int .i64 (IntKind.i64.wrap ((Nat.cast (R := Int) i) + 1))), .d (.int .i64 (Nat.cast (R := Int) (i + 1))))] rfl (by kernel_rfl : runSegA (cfT trB0) 1000 0 _ _ _ _ (mrS n true i) = some (stackAt mrC 0, mrS n false (i + 1), _, _)) ⟨(by first | rfl | exact decide_eq_true (by have := hlt h13; omega)), trivial⟩ (by refine ⟨le_bool h13, ?_, le_bool h30, le_bool h72, le_bool h77, ?_, trivial⟩ <;> (first | (refine .of_eq ?_; rw [wrap_succ (by omega)]; done) | (refine .of_eq ?_; rw [Int.toNat_natCast, hc (hlt h13)]; rfl))) ?_
            refine ih (_, i + 1) ⟨hlt h13, ?_⟩ (by have := hlt h13; simp only; omega)
            simp only
            rw [hok]
            clear hok hend ih hc ok hb
            first | (rw [Bool.false_and]; done) | (simp at *; simp [rcB, *]; done) | (simp at *; simp [rcB, *]; omega) | (simp at *; simp [rcB, *]; by_cases q : 1 ≤ c.page <;> by_cases q2 : c.size ≤ 100 <;> simp [pageB, q, q2] <;> omega)
        | false =>
          refine WK.segA ok 1000 0 [(15, .d (.int .i64 (Nat.cast (R := Int) (i + 1)))), (19, .iptr (.agg [.str c.1, .int .i64 c.2, .str c.3, .int .i64 c.4]) 0), (13, .d (.bool true)), (30, .d (.bool false)), (72, .d (.bool false))] [] [1,3,4] [decide (0 ≤ (Nat.cast (R := Int) i) ∧ (Nat.cast (R := Int) i) < (Nat.cast (R := Int) (List.map cD n.cells).length))] [(.d (.bool (decide ((Nat.cast (R := Int) i) < (Nat.cast (R := Int) (List.map cD n.cells).length)))), .d (.bool true)), (.iptr ((List.map cD n.cells).getD (Nat.cast (R := Int) i).toNat .nilp) 0, .iptr (.agg [.str c.1, .int .i64 c.2, .str c.3, .int .i64 c.4]) 0), (.d (.bool (n.1 == 1)), .d (.bool false)), (.d (.bool (decide ((Nat.cast (R := Int) (List.length c.key)) ≤ 100))), .d (.bool false)), (.d (.int .i64 (IntKind.i64.wrap ((Nat.cast (R := Int) i) + 1))), .d (.int .i64 (Nat.cast (R := Int) (i + 1))))] rfl (by kernel_rfl : runSegA (cfT trB0) 1000 0 _ _ _ _ (mrS n true i) = some (stackAt mrC 0, mrS n false (i + 1), _, _)) ⟨(by first | rfl | exact decide_eq_true (by have := hlt h13; omega)), trivial⟩ (by refine ⟨le_bool h13, ?_, le_bool h30, le_bool h72, ?_, trivial⟩ <;> (first | (refine .of_eq ?_; rw [wrap_succ (by omega)]; done) | (refine .of_eq ?_; rw [Int.toNat_natCast, hc (hlt h13)]; rfl))) ?_
          refine ih (_, i + 1) ⟨hlt h13, ?_⟩ (by have := hlt h13; simp only; omega)
          simp only
          rw [hok]
          clear hok hend ih hc ok hb
          first | (rw [Bool.false_and]; done) | (simp at *; simp [rcB, *]; done) | (simp at *; simp [rcB, *]; omega) | (simp at *; simp [rcB, *]; by_cases q : 1 ≤ c.page <;> by_cases q2 : c.size ≤ 100 <;> simp [pageB, q, q2] <;> omega)
    | false =>
      cases h90 : (n.1 == 1 : Bool) with
      | true =>
        cases h97 : (n.2 == 0 : Bool) with
        | true =>
          exact WK.fin ok 1000 0 [(15, .d (.int .i64 (Nat.cast (R := Int) (i + 1)))), (19, .iptr (.agg [.str c.1, .int .i64 c.2, .str c.3, .int .i64 c.4]) 0), (13, .d (.bool false)), (90, .d (.bool true)), (97, .d (.bool true))] [] [(.d (.bool (decide ((Nat.cast (R := Int) i) < (Nat.cast (R := Int) (List.map cD n.cells).length)))), .d (.bool false)), (.d (.bool (n.1 == 1)), .d (.bool true)), (.d (.bool (n.2 == 0)), .d (.bool true))] rfl (by kernel_rfl : runEnd (cfT trB0) true _ 1000 0 _ _ (mrS n true i) = some (.d (.bool (n.4 == [])), [], _, _)) trivial ⟨le_bool h13, le_bool h90, le_bool h97, trivial⟩ ⟨by have he := hend h13; clear hok hend ih hc ok hb hlt; simp at *; first | (simp [mayR, *]; done) | (simp [mayR, *] <;> (cases n.cells <;> (try simp) <;> omega)), rfl⟩
        | false =>
          exact WK.fin ok 1000 0 [(15, .d (.int .i64 (Nat.cast (R := Int) (i + 1)))), (19, .iptr (.agg [.str c.1, .int .i64 c.2, .str c.3, .int .i64 c.4]) 0), (13, .d (.bool false)), (90, .d (.bool true)), (97, .d (.bool false))] [] [(.d (.bool (decide ((Nat.cast (R := Int) i) < (Nat.cast (R := Int) (List.map cD n.cells).length)))), .d (.bool false)), (.d (.bool (n.1 == 1)), .d (.bool true)), (.d (.bool (n.2 == 0)), .d (.bool false))] rfl (by kernel_rfl : runEnd (cfT trB0) true _ 1000 0 _ _ (mrS n true i) = some (.d (.bool false), [], _, _)) trivial ⟨le_bool h13, le_bool h90, le_bool h97, trivial⟩ ⟨by have he := hend h13; clear hok hend ih hc ok hb hlt; simp at *; first | (simp [mayR, *]; done) | (simp [mayR, *] <;> (cases n.cells <;> (try simp) <;> omega)), rfl⟩
      | false =>
        cases h103 : (n.1 == 2 : Bool) with
        | true =>
          cases h110 : (pageB n.2 (1) : Bool) with
          | true =>
            cases h115 : (n.4 == [] : Bool) with
            | true =>
              exact WK.fin ok 1000 0 [(15, .d (.int .i64 (Nat.cast (R := Int) (i + 1)))), (19, .iptr (.agg [.str c.1, .int .i64 c.2, .str c.3, .int .i64 c.4]) 0), (13, .d (.bool false)), (90, .d (.bool false)), (103, .d (.bool true)), (110, .d (.bool true)), (115, .d (.bool true))] [] [(.d (.bool (decide ((Nat.cast (R := Int) i) < (Nat.cast (R := Int) (List.map cD n.cells).length)))), .d (.bool false)), (.d (.bool (n.1 == 1)), .d (.bool false)), (.d (.bool (n.1 == 2)), .d (.bool true)), (.d (.bool (pageB n.2 (1))), .d (.bool true)), (.d (.bool (n.4 == [])), .d (.bool true))] rfl (by kernel_rfl : runEnd (cfT trB0) true _ 1000 0 _ _ (mrS n true i) = some (.d (.bool (decide (0 < (Nat.cast (R := Int) (List.map cD n.cells).length)))), [], _, _)) trivial ⟨le_bool h13, le_bool h90, le_bool h103, le_bool h110, le_bool h115, trivial⟩ ⟨by have he := hend h13; clear hok hend ih hc ok hb hlt; simp at *; first | (simp [mayR, *]; done) | (simp [mayR, *] <;> (cases n.cells <;> (try simp) <;> omega)), rfl⟩
            | false =>
              exact WK.fin ok 1000 0 [(15, .d (.int .i64 (Nat.cast (R := Int) (i + 1)))), (19, .iptr (.agg [.str c.1, .int .i64 c.2, .str c.3, .int .i64 c.4]) 0), (13, .d (.bool false)), (90, .d (.bool false)), (103, .d (.bool true)), (110, .d (.bool true)), (115, .d (.bool false))] [] [(.d (.bool (decide ((Nat.cast (R := Int) i) < (Nat.cast (R := Int) (List.map cD n.cells).length)))), .d (.bool false)), (.d (.bool (n.1 == 1)), .d (.bool false)), (.d (.bool (n.1 == 2)), .d (.bool true)), (.d (.bool (pageB n.2 (1))), .d (.bool true)), (.d (.bool (n.4 == [])), .d (.bool false))] rfl (by kernel_rfl : runEnd (cfT trB0) true _ 1000 0 _ _ (mrS n true i) = some (.d (.bool false), [], _, _)) trivial ⟨le_bool h13, le_bool h90, le_bool h103, le_bool h110, le_bool h115, trivial⟩ ⟨by have he := hend h13; clear hok hend ih hc ok hb hlt; simp at *; first | (simp [mayR, *]; done) | (simp [mayR, *] <;> (cases n.cells <;> (try simp) <;> omega)), rfl⟩
          | false =>
            exact WK.fin ok 1000 0 [(15, .d (.int .i64 (Nat.cast (R := Int) (i + 1)))), (19, .iptr (.agg [.str c.1, .int .i64 c.2, .str c.3, .int .i64 c.4]) 0), (13, .d (.bool false)), (90, .d (.bool false)), (103, .d (.bool true)), (110, .d (.bool false))] [] [(.d (.bool (decide ((Nat.cast (R := Int) i) < (Nat.cast (R := Int) (List.map cD n.cells).length)))), .d (.bool false)), (.d (.bool (n.1 == 1)), .d (.bool false)), (.d (.bool (n.1 == 2)), .d (.bool true)), (.d (.bool (pageB n.2 (1))), .d (.bool false))] rfl (by kernel_rfl : runEnd (cfT trB0) true _ 1000 0 _ _ (mrS n true i) = some (.d (.bool false), [], _, _)) trivial ⟨le_bool h13, le_bool h90, le_bool h103, le_bool h110, trivial⟩ ⟨by have he := hend h13; clear hok hend ih hc ok hb hlt; simp at *; first | (simp [mayR, *]; done) | (simp [mayR, *] <;> (cases n.cells <;> (try simp) <;> omega)), rfl⟩
        | false =>
          cases h122 : (n.1 == 3 : Bool) with
          | true =>
            cases h126 : (pageB n.2 (0) : Bool) with
            | true =>
              cases h132 : ((Nat.cast (R := Int) (List.map cD n.3).length) == 0 : Bool) with
              | true =>
                cases h137 : (!n.4 == [] : Bool) with
                | true =>
                  exact WK.fin ok 1000 0 [(15, .d (.int .i64 (Nat.cast (R := Int) (i + 1)))), (19, .iptr (.agg [.str c.1, .int .i64 c.2, .str c.3, .int .i64 c.4]) 0), (13, .d (.bool false)), (90, .d (.bool false)), (103, .d (.bool false)), (122, .d (.bool true)), (126, .d (.bool true)), (132, .d (.bool true)), (137, .d (.bool true))] [] [(.d (.bool (decide ((Nat.cast (R := Int) i) < (Nat.cast (R := Int) (List.map cD n.cells).length)))), .d (.bool false)), (.d (.bool (n.1 == 1)), .d (.bool false)), (.d (.bool (n.1 == 2)), .d (.bool false)), (.d (.bool (n.1 == 3)), .d (.bool true)), (.d (.bool (pageB n.2 (0))), .d (.bool true)), (.d (.bool ((Nat.cast (R := Int) (List.map cD n.3).length) == 0)), .d (.bool true)), (.d (.bool !n.4 == []), .d (.bool true))] rfl (by kernel_rfl : runEnd (cfT trB0) true _ 1000 0 _ _ (mrS n true i) = some (.d (.bool (decide ((Nat.cast (R := Int) (List.length n.data)) ≤ 505))), [], _, _)) trivial ⟨le_bool h13, le_bool h90, le_bool h103, le_bool h122, le_bool h126, le_bool h132, le_bool h137, trivial⟩ ⟨by have he := hend h13; clear hok hend ih hc ok hb hlt; simp at *; first | (simp [mayR, *]; done) | (simp [mayR, *] <;> (cases n.cells <;> (try simp) <;> omega)), rfl⟩
                | false =>
                  exact WK.fin ok 1000 0 [(15, .d (.int .i64 (Nat.cast (R := Int) (i + 1)))), (19, .iptr (.agg [.str c.1, .int .i64 c.2, .str c.3, .int .i64 c.4]) 0), (13, .d (.bool false)), (90, .d (.bool false)), (103, .d (.bool false)), (122, .d (.bool true)), (126, .d (.bool true)), (132, .d (.bool true)), (137, .d (.bool false))] [] [(.d (.bool (decide ((Nat.cast (R := Int) i) < (Nat.cast (R := Int) (List.map cD n.cells).length)))), .d (.bool false)), (.d (.bool (n.1 == 1)), .d (.bool false)), (.d (.bool (n.1 == 2)), .d (.bool false)), (.d (.bool (n.1 == 3)), .d (.bool true)), (.d (.bool (pageB n.2 (0))), .d (.bool true)), (.d (.bool ((Nat.cast (R := Int) (List.map cD n.3).length) == 0)), .d (.bool true)), (.d (.bool !n.4 == []), .d (.bool false))] rfl (by kernel_rfl : runEnd (cfT trB0) true _ 1000 0 _ _ (mrS n true i) = some (.d (.bool false), [], _, _)) trivial ⟨le_bool h13, le_bool h90, le_bool h103, le_bool h122, le_bool h126, le_bool h132, le_bool h137, trivial⟩ ⟨by have he := hend h13; clear hok hend ih hc ok hb hlt; simp at *; first | (simp [mayR, *]; done) | (simp [mayR, *] <;> (cases n.cells <;> (try simp) <;> omega)), rfl⟩
              | false =>
                exact WK.fin ok 1000 0 [(15, .d (.int .i64 (Nat.cast (R := Int) (i + 1)))), (19, .iptr (.agg [.str c.1, .int .i64 c.2, .str c.3, .int .i64 c.4]) 0), (13, .d (.bool false)), (90, .d (.bool false)), (103, .d (.bool false)), (122, .d (.bool true)), (126, .d (.bool true)), (132, .d (.bool false))] [] [(.d (.bool (decide ((Nat.cast (R := Int) i) < (Nat.cast (R := Int) (List.map cD n.cells).length)))), .d (.bool false)), (.d (.bool (n.1 == 1)), .d (.bool false)), (.d (.bool (n.1 == 2)), .d (.bool false)), (.d (.bool (n.1 == 3)), .d (.bool true)), (.d (.bool (pageB n.2 (0))), .d (.bool true)), (.d (.bool ((Nat.cast (R := Int) (List.map cD n.3).length) == 0)), .d (.bool false))] rfl (by kernel_rfl : runEnd (cfT trB0) true _ 1000 0 _ _ (mrS n true i) = some (.d (.bool false), [], _, _)) trivial ⟨le_bool h13, le_bool h90, le_bool h103, le_bool h122, le_bool h126, le_bool h132, trivial⟩ ⟨by have he := hend h13; clear hok hend ih hc ok hb hlt; simp at *; first | (simp [mayR, *]; done) | (simp [mayR, *] <;> (cases n.cells <;> (try simp) <;> omega)), rfl⟩
            | false =>
              exact WK.fin ok 1000 0 [(15, .d (.int .i64 (Nat.cast (R := Int) (i + 1)))), (19, .iptr (.agg [.str c.1, .int .i64 c.2, .str c.3, .int .i64 c.4]) 0), (13, .d (.bool false)), (90, .d (.bool false)), (103, .d (.bool false)), (122, .d (.bool true)), (126, .d (.bool false))] [] [(.d (.bool (decide ((Nat.cast (R := Int) i) < (Nat.cast (R := Int) (List.map cD n.cells).length)))), .d (.bool false)), (.d (.bool (n.1 == 1)), .d (.bool false)), (.d (.bool (n.1 == 2)), .d (.bool false)), (.d (.bool (n.1 == 3)), .d (.bool true)), (.d (.bool (pageB n.2 (0))), .d (.bool false))] rfl (by kernel_rfl : runEnd (cfT trB0) true _ 1000 0 _ _ (mrS n true i) = some (.d (.bool false), [], _, _)) trivial ⟨le_bool h13, le_bool h90, le_bool h103, le_bool h122, le_bool h126, trivial⟩ ⟨by have he := hend h13; clear hok hend ih hc ok hb hlt; simp at *; first | (simp [mayR, *]; done) | (simp [mayR, *] <;> (cases n.cells <;> (try simp) <;> omega)), rfl⟩
          | false =>
            cases h144 : (n.1 == 4 : Bool) with
            | true =>
              cases h148 : (pageB n.2 (0) : Bool) with
              | true =>
                cases h154 : ((Nat.cast (R := Int) (List.map cD n.3).length) == 0 : Bool) with
                | true =>
                  exact WK.fin ok 1000 0 [(15, .d (.int .i64 (Nat.cast (R := Int) (i + 1)))), (19, .iptr (.agg [.str c.1, .int .i64 c.2, .str c.3, .int .i64 c.4]) 0), (13, .d (.bool false)), (90, .d (.bool false)), (103, .d (.bool false)), (122, .d (.bool false)), (144, .d (.bool true)), (148, .d (.bool true)), (154, .d (.bool true))] [] [(.d (.bool (decide ((Nat.cast (R := Int) i) < (Nat.cast (R := Int) (List.map cD n.cells).length)))), .d (.bool false)), (.d (.bool (n.1 == 1)), .d (.bool false)), (.d (.bool (n.1 == 2)), .d (.bool false)), (.d (.bool (n.1 == 3)), .d (.bool false)), (.d (.bool (n.1 == 4)), .d (.bool true)), (.d (.bool (pageB n.2 (0))), .d (.bool true)), (.d (.bool ((Nat.cast (R := Int) (List.map cD n.3).length) == 0)), .d (.bool true))] rfl (by kernel_rfl : runEnd (cfT trB0) true _ 1000 0 _ _ (mrS n true i) = some (.d (.bool (n.4 == [])), [], _, _)) trivial ⟨le_bool h13, le_bool h90, le_bool h103, le_bool h122, le_bool h144, le_bool h148, le_bool h154, trivial⟩ ⟨by have he := hend h13; clear hok hend ih hc ok hb hlt; simp at *; first | (simp [mayR, *]; done) | (simp [mayR, *] <;> (cases n.cells <;> (try simp) <;> omega)), rfl⟩
                | false =>
                  exact WK.fin ok 1000 0 [(15, .d (.int .i64 (Nat.cast (R := Int) (i + 1)))), (19, .iptr (.agg [.str c.1, .int .i64 c.2, .str c.3, .int .i64 c.4]) 0), (13, .d (.bool false)), (90, .d (.bool false)), (103, .d (.bool false)), (122, .d (.bool false)), (144, .d (.bool true)), (148, .d (.bool true)), (154, .d (.bool false))] [] [(.d (.bool (decide ((Nat.cast (R := Int) i) < (Nat.cast (R := Int) (List.map cD n.cells).length)))), .d (.bool false)), (.d (.bool (n.1 == 1)), .d (.bool false)), (.d (.bool (n.1 == 2)), .d (.bool false)), (.d (.bool (n.1 == 3)), .d (.bool false)), (.d (.bool (n.1 == 4)), .d (.bool true)), (.d (.bool (pageB n.2 (0))), .d (.bool true)), (.d (.bool ((Nat.cast (R := Int) (List.map cD n.3).length) == 0)), .d (.bool false))] rfl (by kernel_rfl : runEnd (cfT trB0) true _ 1000 0 _ _ (mrS n true i) = some (.d (.bool false), [], _, _)) trivial ⟨le_bool h13, le_bool h90, le_bool h103, le_bool h122, le_bool h144, le_bool h148, le_bool h154, trivial⟩ ⟨by have he := hend h13; clear hok hend ih hc ok hb hlt; simp at *; first | (simp [mayR, *]; done) | (simp [mayR, *] <;> (cases n.cells <;> (try simp) <;> omega)), rfl⟩
              | false =>
                exact WK.fin ok 1000 0 [(15, .d (.int .i64 (Nat.cast (R := Int) (i + 1)))), (19, .iptr (.agg [.str c.1, .int .i64 c.2, .str c.3, .int .i64 c.4]) 0), (13, .d (.bool false)), (90, .d (.bool false)), (103, .d (.bool false)), (122, .d (.bool false)), (144, .d (.bool true)), (148, .d (.bool false))] [] [(.d (.bool (decide ((Nat.cast (R := Int) i) < (Nat.cast (R := Int) (List.map cD n.cells).length)))), .d (.bool false)), (.d (.bool (n.1 == 1)), .d (.bool false)), (.d (.bool (n.1 == 2)), .d (.bool false)), (.d (.bool (n.1 == 3)), .d (.bool false)), (.d (.bool (n.1 == 4)), .d (.bool true)), (.d (.bool (pageB n.2 (0))), .d (.bool false))] rfl (by kernel_rfl : runEnd (cfT trB0) true _ 1000 0 _ _ (mrS n true i) = some (.d (.bool false), [], _, _)) trivial ⟨le_bool h13, le_bool h90, le_bool h103, le_bool h122, le_bool h144, le_bool h148, trivial⟩ ⟨by have he := hend h13; clear hok hend ih hc ok hb hlt; simp at *; first | (simp [mayR, *]; done) | (simp [mayR, *] <;> (cases n.cells <;> (try simp) <;> omega)), rfl⟩
            | false =>
              exact WK.fin ok 1000 0 [(15, .d (.int .i64 (Nat.cast (R := Int) (i + 1)))), (19, .iptr (.agg [.str c.1, .int .i64 c.2, .str c.3, .int .i64 c.4]) 0), (13, .d (.bool false)), (90, .d (.bool false)), (103, .d (.bool false)), (122, .d (.bool false)), (144, .d (.bool false))] [] [(.d (.bool (decide ((Nat.cast (R := Int) i) < (Nat.cast (R := Int) (List.map cD n.cells).length)))), .d (.bool false)), (.d (.bool (n.1 == 1)), .d (.bool false)), (.d (.bool (n.1 == 2)), .d (.bool false)), (.d (.bool (n.1 == 3)), .d (.bool false)), (.d (.bool (n.1 == 4)), .d (.bool false))] rfl (by kernel_rfl : runEnd (cfT trB0) true _ 1000 0 _ _ (mrS n true i) = some (.d (.bool false), [], _, _)) trivial ⟨le_bool h13, le_bool h90, le_bool h103, le_bool h122, le_bool h144, trivial⟩ ⟨by have he := hend h13; clear hok hend ih hc ok hb hlt; simp at *; first | (simp [mayR, *]; done) | (simp [mayR, *] <;> (cases n.cells <;> (try simp) <;> omega)), rfl⟩
  | false =>
    cases h13 : (decide ((Nat.cast (R := Int) i) < (Nat.cast (R := Int) (List.map cD n.cells).length)) : Bool) with
    | true =>
      cases h30 : (n.1 == 1 : Bool) with
      | true =>
        cases h44 : (decide (c.size ≤ 100) : Bool) with
        | true =>
          refine WK.segA ok 1000 0 [(15, .d (.int .i64 (Nat.cast (R := Int) (i + 1)))), (19, .iptr (.agg [.str c.1, .int .i64 c.2, .str c.3, .int .i64 c.4]) 0), (13, .d (.bool true)), (30, .d (.bool true)), (44, .d (.bool true))] [] [1,3,4] [decide (0 ≤ (Nat.cast (R := Int) i) ∧ (Nat.cast (R := Int) i) < (Nat.cast (R := Int) (List.map cD n.cells).length))] [(.d (.bool (decide ((Nat.cast (R := Int) i) < (Nat.cast (R := Int) (List.map cD n.cells).length)))), .d (.bool true)), (.iptr ((List.map cD n.cells).getD (Nat.cast (R := Int) i).toNat .nilp) 0, .iptr (.agg [.str c.1, .int .i64 c.2, .str c.3, .int .i64 c.4]) 0), (.d (.bool (n.1 == 1)), .d (.bool true)), (.d (.bool (decide (c.size ≤ 100))), .d (.bool true)), (.d (.int .i64 (IntKind.i64.wrap ((Nat.cast (R := Int) i) + 1))), .d (.int .i64 (Nat.cast (R := Int) (i + 1))))] rfl (by kernel_rfl : runSegA (cfT trB0) 1000 0 _ _ _ _ (mrS n false i) = some (stackAt mrC 0, mrS n false (i + 1), _, _)) ⟨(by first | rfl | exact decide_eq_true (by have := hlt h13; omega)), trivial⟩ (by refine ⟨le_bool h13, ?_, le_bool h30, le_bool h44, ?_, trivial⟩ <;> (first | (refine .of_eq ?_; rw [wrap_succ (by omega)]; done) | (refine .of_eq ?_; rw [Int.toNat_natCast, hc (hlt h13)]; rfl))) ?_
          refine ih (_, i + 1) ⟨hlt h13, ?_⟩ (by have := hlt h13; simp only; omega)
          simp only
          rw [hok]
          clear hok hend ih hc ok hb
          first | (rw [Bool.false_and]; done) | (simp at *; simp [rcB, *]; done) | (simp at *; simp [rcB, *]; omega) | (simp at *; simp [rcB, *]; by_cases q : 1 ≤ c.page <;> by_cases q2 : c.size ≤ 100 <;> simp [pageB, q, q2] <;> omega)
        | false =>
          refine WK.segA ok 1000 0 [(15, .d (.int .i64 (Nat.cast (R := Int) (i + 1)))), (19, .iptr (.agg [.str c.1, .int .i64 c.2, .str c.3, .int .i64 c.4]) 0), (13, .d (.bool true)), (30, .d (.bool true)), (44, .d (.bool false))] [] [1,3,4] [decide (0 ≤ (Nat.cast (R := Int) i) ∧ (Nat.cast (R := Int) i) < (Nat.cast (R := Int) (List.map cD n.cells).length))] [(.d (.bool (decide ((Nat.cast (R := Int) i) < (Nat.cast (R := Int) (List.map cD n.cells).length)))), .d (.bool true)), (.iptr ((List.map cD n.cells).getD (Nat.cast (R := Int) i).toNat .nilp) 0, .iptr (.agg [.str c.1, .int .i64 c.2, .str c.3, .int .i64 c.4]) 0), (.d (.bool (n.1 == 1)), .d (.bool true)), (.d (.bool (decide (c.size ≤ 100))), .d (.bool false)), (.d (.int .i64 (IntKind.i64.wrap ((Nat.cast (R := Int) i) + 1))), .d (.int .i64 (Nat.cast (R := Int) (i + 1))))] rfl (by kernel_rfl : runSegA (cfT trB0) 1000 0 _ _ _ _ (mrS n false i) = some (stackAt mrC 0, mrS n false (i + 1), _, _)) ⟨(by first | rfl | exact decide_eq_true (by have := hlt h13; omega)), trivial⟩ (by refine ⟨le_bool h13, ?_, le_bool h30, le_bool h44, ?_, trivial⟩ <;> (first | (refine .of_eq ?_; rw [wrap_succ (by omega)]; done) | (refine .of_eq ?_; rw [Int.toNat_natCast, hc (hlt h13)]; rfl))) ?_
          refine ih (_, i + 1) ⟨hlt h13, ?_⟩ (by have := hlt h13; simp only; omega)
          simp only
          rw [hok]
          clear hok hend ih hc ok hb
          first | (rw [Bool.false_and]; done) | (simp at *; simp [rcB, *]; done) | (simp at *; simp [rcB, *]; omega) | (simp at *; simp [rcB, *]; by_cases q : 1 ≤ c.page <;> by_cases q2 : c.size ≤ 100 <;> simp [pageB, q, q2] <;> omega)
      | false =>
        refine WK.segA ok 1000 0 [(15, .d (.int .i64 (Nat.cast (R := Int) (i + 1)))), (19, .iptr (.agg [.str c.1, .int .i64 c.2, .str c.3, .int .i64 c.4]) 0), (13, .d (.bool true)), (30, .d (.bool false))] [] [1,3,4] [decide (0 ≤ (Nat.cast (R := Int) i) ∧ (Nat.cast (R := Int) i) < (Nat.cast (R := Int) (List.map cD n.cells).length))] [(.d (.bool (decide ((Nat.cast (R := Int) i) < (Nat.cast (R := Int) (List.map cD n.cells).length)))), .d (.bool true)), (.iptr ((List.map cD n.cells).getD (Nat.cast (R := Int) i).toNat .nilp) 0, .iptr (.agg [.str c.1, .int .i64 c.2, .str c.3, .int .i64 c.4]) 0), (.d (.bool (n.1 == 1)), .d (.bool false)), (.d (.int .i64 (IntKind.i64.wrap ((Nat.cast (R := Int) i) + 1))), .d (.int .i64 (Nat.cast (R := Int) (i + 1))))] rfl (by kernel_rfl : runSegA (cfT trB0) 1000 0 _ _ _ _ (mrS n false i) = some (stackAt mrC 0, mrS n false (i + 1), _, _)) ⟨(by first | rfl | exact decide_eq_true (by have := hlt h13; omega)), trivial⟩ (by refine ⟨le_bool h13, ?_, le_bool h30, ?_, trivial⟩ <;> (first | (refine .of_eq ?_; rw [wrap_succ (by omega)]; done) | (refine .of_eq ?_; rw [Int.toNat_natCast, hc (hlt h13)]; rfl))) ?_
        refine ih (_, i + 1) ⟨hlt h13, ?_⟩ (by have := hlt h13; simp only; omega)
        simp only
        rw [hok]
        clear hok hend ih hc ok hb
        first | (rw [Bool.false_and]; done) | (simp at *; simp [rcB, *]; done) | (simp at *; simp [rcB, *]; omega) | (simp at *; simp [rcB, *]; by_cases q : 1 ≤ c.page <;> by_cases q2 : c.size ≤ 100 <;> simp [pageB, q, q2] <;> omega)
    | false =>
      cases h90 : (n.1 == 1 : Bool) with
      | true =>
        exact WK.fin ok 1000 0 [(15, .d (.int .i64 (Nat.cast (R := Int) (i + 1)))), (19, .iptr (.agg [.str c.1, .int .i64 c.2, .str c.3, .int .i64 c.4]) 0), (13, .d (.bool false)), (90, .d (.bool true))] [] [(.d (.bool (decide ((Nat.cast (R := Int) i) < (Nat.cast (R := Int) (List.map cD n.cells).length)))), .d (.bool false)), (.d (.bool (n.1 == 1)), .d (.bool true))] rfl (by kernel_rfl : runEnd (cfT trB0) true _ 1000 0 _ _ (mrS n false i) = some (.d (.bool false), [], _, _)) trivial ⟨le_bool h13, le_bool h90, trivial⟩ ⟨by have he := hend h13; clear hok hend ih hc ok hb hlt; simp at *; first | (simp [mayR, *]; done) | (simp [mayR, *] <;> (cases n.cells <;> (try simp) <;> omega)), rfl⟩
      | false =>
        cases h103 : (n.1 == 2 : Bool) with
        | true =>
          exact WK.fin ok 1000 0 [(15, .d (.int .i64 (Nat.cast (R := Int) (i + 1)))), (19, .iptr (.agg [.str c.1, .int .i64 c.2, .str c.3, .int .i64 c.4]) 0), (13, .d (.bool false)), (90, .d (.bool false)), (103, .d (.bool true))] [] [(.d (.bool (decide ((Nat.cast (R := Int) i) < (Nat.cast (R := Int) (List.map cD n.cells).length)))), .d (.bool false)), (.d (.bool (n.1 == 1)), .d (.bool false)), (.d (.bool (n.1 == 2)), .d (.bool true))] rfl (by kernel_rfl : runEnd (cfT trB0) true _ 1000 0 _ _ (mrS n false i) = some (.d (.bool false), [], _, _)) trivial ⟨le_bool h13, le_bool h90, le_bool h103, trivial⟩ ⟨by have he := hend h13; clear hok hend ih hc ok hb hlt; simp at *; first | (simp [mayR, *]; done) | (simp [mayR, *] <;> (cases n.cells <;> (try simp) <;> omega)), rfl⟩
        | false =>
          cases h122 : (n.1 == 3 : Bool) with
          | true =>
            cases h126 : (pageB n.2 (0) : Bool) with
            | true =>
              cases h132 : ((Nat.cast (R := Int) (List.map cD n.3).length) == 0 : Bool) with
              | true =>
                cases h137 : (!n.4 == [] : Bool) with
                | true =>
                  exact WK.fin ok 1000 0 [(15, .d (.int .i64 (Nat.cast (R := Int) (i + 1)))), (19, .iptr (.agg [.str c.1, .int .i64 c.2, .str c.3, .int .i64 c.4]) 0), (13, .d (.bool false)), (90, .d (.bool false)), (103, .d (.bool false)), (122, .d (.bool true)), (126, .d (.bool true)), (132, .d (.bool true)), (137, .d (.bool true))] [] [(.d (.bool (decide ((Nat.cast (R := Int) i) < (Nat.cast (R := Int) (List.map cD n.cells).length)))), .d (.bool false)), (.d (.bool (n.1 == 1)), .d (.bool false)), (.d (.bool (n.1 == 2)), .d (.bool false)), (.d (.bool (n.1 == 3)), .d (.bool true)), (.d (.bool (pageB n.2 (0))), .d (.bool true)), (.d (.bool ((Nat.cast (R := Int) (List.map cD n.3).length) == 0)), .d (.bool true)), (.d (.bool !n.4 == []), .d (.bool true))] rfl (by kernel_rfl : runEnd (cfT trB0) true _ 1000 0 _ _ (mrS n false i) = some (.d (.bool (decide ((Nat.cast (R := Int) (List.length n.data)) ≤ 505))), [], _, _)) trivial ⟨le_bool h13, le_bool h90, le_bool h103, le_bool h122, le_bool h126, le_bool h132, le_bool h137, trivial⟩ ⟨by have he := hend h13; clear hok hend ih hc ok hb hlt; simp at *; first | (simp [mayR, *]; done) | (simp [mayR, *] <;> (cases n.cells <;> (try simp) <;> omega)), rfl⟩
                | false =>
                  exact WK.fin ok 1000 0 [(15, .d (.int .i64 (Nat.cast (R := Int) (i + 1)))), (19, .iptr (.agg [.str c.1, .int .i64 c.2, .str c.3, .int .i64 c.4]) 0), (13, .d (.bool false)), (90, .d (.bool false)), (103, .d (.bool false)), (122, .d (.bool true)), (126, .d (.bool true)), (132, .d (.bool true)), (137, .d (.bool false))] [] [(.d (.bool (decide ((Nat.cast (R := Int) i) < (Nat.cast (R := Int) (List.map cD n.cells).length)))), .d (.bool false)), (.d (.bool (n.1 == 1)), .d (.bool false)), (.d (.bool (n.1 == 2)), .d (.bool false)), (.d (.bool (n.1 == 3)), .d (.bool true)), (.d (.bool (pageB n.2 (0))), .d (.bool true)), (.d (.bool ((Nat.cast (R := Int) (List.map cD n.3).length) == 0)), .d (.bool true)), (.d (.bool !n.4 == []), .d (.bool false))] rfl (by kernel_rfl : runEnd (cfT trB0) true _ 1000 0 _ _ (mrS n false i) = some (.d (.bool false), [], _, _)) trivial ⟨le_bool h13, le_bool h90, le_bool h103, le_bool h122, le_bool h126, le_bool h132, le_bool h137, trivial⟩ ⟨by have he := hend h13; clear hok hend ih hc ok hb hlt; simp at *; first | (simp [mayR, *]; done) | (simp [mayR, *] <;> (cases n.cells <;> (try simp) <;> omega)), rfl⟩
              | false =>
                exact WK.fin ok 1000 0 [(15, .d (.int .i64 (Nat.cast (R := Int) (i + 1)))), (19, .iptr (.agg [.str c.1, .int .i64 c.2, .str c.3, .int .i64 c.4]) 0), (13, .d (.bool false)), (90, .d (.bool false)), (103, .d (.bool false)), (122, .d (.bool true)), (126, .d (.bool true)), (132, .d (.bool false))] [] [(.d (.bool (decide ((Nat.cast (R := Int) i) < (Nat.cast (R := Int) (List.map cD n.cells).length)))), .d (.bool false)), (.d (.bool (n.1 == 1)), .d (.bool false)), (.d (.bool (n.1 == 2)), .d (.bool false)), (.d (.bool (n.1 == 3)), .d (.bool true)), (.d (.bool (pageB n.2 (0))), .d (.bool true)), (.d (.bool ((Nat.cast (R := Int) (List.map cD n.3).length) == 0)), .d (.bool false))] rfl (by kernel_rfl : runEnd (cfT trB0) true _ 1000 0 _ _ (mrS n false i) = some (.d (.bool false), [], _, _)) trivial ⟨le_bool h13, le_bool h90, le_bool h103, le_bool h122, le_bool h126, le_bool h132, trivial⟩ ⟨by have he := hend h13; clear hok hend ih hc ok hb hlt; simp at *; first | (simp [mayR, *]; done) | (simp [mayR, *] <;> (cases n.cells <;> (try simp) <;> omega)), rfl⟩
            | false =>
              exact WK.fin ok 1000 0 [(15, .d (.int .i64 (Nat.cast (R := Int) (i + 1)))), (19, .iptr (.agg [.str c.1, .int .i64 c.2, .str c.3, .int .i64 c.4]) 0), (13, .d (.bool false)), (90, .d (.bool false)), (103, .d (.bool false)), (122, .d (.bool true)), (126, .d (.bool false))] [] [(.d (.bool (decide ((Nat.cast (R := Int) i) < (Nat.cast (R := Int) (List.map cD n.cells).length)))), .d (.bool false)), (.d (.bool (n.1 == 1)), .d (.bool false)), (.d (.bool (n.1 == 2)), .d (.bool false)), (.d (.bool (n.1 == 3)), .d (.bool true)), (.d (.bool (pageB n.2 (0))), .d (.bool false))] rfl (by kernel_rfl : runEnd (cfT trB0) true _ 1000 0 _ _ (mrS n false i) = some (.d (.bool false), [], _, _)) trivial ⟨le_bool h13, le_bool h90, le_bool h103, le_bool h122, le_bool h126, trivial⟩ ⟨by have he := hend h13; clear hok hend ih hc ok hb hlt; simp at *; first | (simp [mayR, *]; done) | (simp [mayR, *] <;> (cases n.cells <;> (try simp) <;> omega)), rfl⟩
          | false =>
            cases h144 : (n.1 == 4 : Bool) with
            | true =>
              cases h148 : (pageB n.2 (0) : Bool) with
              | true =>
                cases h154 : ((Nat.cast (R := Int) (List.map cD n.3).length) == 0 : Bool) with
                | true =>
                  exact WK.fin ok 1000 0 [(15, .d (.int .i64 (Nat.cast (R := Int) (i + 1)))), (19, .iptr (.agg [.str c.1, .int .i64 c.2, .str c.3, .int .i64 c.4]) 0), (13, .d (.bool false)), (90, .d (.bool false)), (103, .d (.bool false)), (122, .d (.bool false)), (144, .d (.bool true)), (148, .d (.bool true)), (154, .d (.bool true))] [] [(.d (.bool (decide ((Nat.cast (R := Int) i) < (Nat.cast (R := Int) (List.map cD n.cells).length)))), .d (.bool false)), (.d (.bool (n.1 == 1)), .d (.bool false)), (.d (.bool (n.1 == 2)), .d (.bool false)), (.d (.bool (n.1 == 3)), .d (.bool false)), (.d (.bool (n.1 == 4)), .d (.bool true)), (.d (.bool (pageB n.2 (0))), .d (.bool true)), (.d (.bool ((Nat.cast (R := Int) (List.map cD n.3).length) == 0)), .d (.bool true))] rfl (by kernel_rfl : runEnd (cfT trB0) true _ 1000 0 _ _ (mrS n false i) = some (.d (.bool (n.4 == [])), [], _, _)) trivial ⟨le_bool h13, le_bool h90, le_bool h103, le_bool h122, le_bool h144, le_bool h148, le_bool h154, trivial⟩ ⟨by have he := hend h13; clear hok hend ih hc ok hb hlt; simp at *; first | (simp [mayR, *]; done) | (simp [mayR, *] <;> (cases n.cells <;> (try simp) <;> omega)), rfl⟩
                | false =>
                  exact WK.fin ok 1000 0 [(15, .d (.int .i64 (Nat.cast (R := Int) (i + 1)))), (19, .iptr (.agg [.str c.1, .int .i64 c.2, .str c.3, .int .i64 c.4]) 0), (13, .d (.bool false)), (90, .d (.bool false)), (103, .d (.bool false)), (122, .d (.bool false)), (144, .d (.bool true)), (148, .d (.bool true)), (154, .d (.bool false))] [] [(.d (.bool (decide ((Nat.cast (R := Int) i) < (Nat.cast (R := Int) (List.map cD n.cells).length)))), .d (.bool false)), (.d (.bool (n.1 == 1)), .d (.bool false)), (.d (.bool (n.1 == 2)), .d (.bool false)), (.d (.bool (n.1 == 3)), .d (.bool false)), (.d (.bool (n.1 == 4)), .d (.bool true)), (.d (.bool (pageB n.2 (0))), .d (.bool true)), (.d (.bool ((Nat.cast (R := Int) (List.map cD n.3).length) == 0)), .d (.bool false))] rfl (by kernel_rfl : runEnd (cfT trB0) true _ 1000 0 _ _ (mrS n false i) = some (.d (.bool false), [], _, _)) trivial ⟨le_bool h13, le_bool h90, le_bool h103, le_bool h122, le_bool h144, le_bool h148, le_bool h154, trivial⟩ ⟨by have he := hend h13; clear hok hend ih hc ok hb hlt; simp at *; first | (simp [mayR, *]; done) | (simp [mayR, *] <;> (cases n.cells <;> (try simp) <;> omega)), rfl⟩
              | false =>
                exact WK.fin ok 1000 0 [(15, .d (.int .i64 (Nat.cast (R := Int) (i + 1)))), (19, .iptr (.agg [.str c.1, .int .i64 c.2, .str c.3, .int .i64 c.4]) 0), (13, .d (.bool false)), (90, .d (.bool false)), (103, .d (.bool false)), (122, .d (.bool false)), (144, .d (.bool true)), (148, .d (.bool false))] [] [(.d (.bool (decide ((Nat.cast (R := Int) i) < (Nat.cast (R := Int) (List.map cD n.cells).length)))), .d (.bool false)), (.d (.bool (n.1 == 1)), .d (.bool false)), (.d (.bool (n.1 == 2)), .d (.bool false)), (.d (.bool (n.1 == 3)), .d (.bool false)), (.d (.bool (n.1 == 4)), .d (.bool true)), (.d (.bool (pageB n.2 (0))), .d (.bool false))] rfl (by kernel_rfl : runEnd (cfT trB0) true _ 1000 0 _ _ (mrS n false i) = some (.d (.bool false), [], _, _)) trivial ⟨le_bool h13, le_bool h90, le_bool h103, le_bool h122, le_bool h144, le_bool h148, trivial⟩ ⟨by have he := hend h13; clear hok hend ih hc ok hb hlt; simp at *; first | (simp [mayR, *]; done) | (simp [mayR, *] <;> (cases n.cells <;> (try simp) <;> omega)), rfl⟩
            | false =>
              exact WK.fin ok 1000 0 [(15, .d (.int .i64 (Nat.cast (R := Int) (i + 1)))), (19, .iptr (.agg [.str c.1, .int .i64 c.2, .str c.3, .int .i64 c.4]) 0), (13, .d (.bool false)), (90, .d (.bool false)), (103, .d (.bool false)), (122, .d (.bool false)), (144, .d (.bool false))] [] [(.d (.bool (decide ((Nat.cast (R := Int) i) < (Nat.cast (R := Int) (List.map cD n.cells).length)))), .d (.bool false)), (.d (.bool (n.1 == 1)), .d (.bool false)), (.d (.bool (n.1 == 2)), .d (.bool false)), (.d (.bool (n.1 == 3)), .d (.bool false)), (.d (.bool (n.1 == 4)), .d (.bool false))] rfl (by kernel_rfl : runEnd (cfT trB0) true _ 1000 0 _ _ (mrS n false i) = some (.d (.bool false), [], _, _)) trivial ⟨le_bool h13, le_bool h90, le_bool h103, le_bool h122, le_bool h144, trivial⟩ ⟨by have he := hend h13; clear hok hend ih hc ok hb hlt; simp at *; first | (simp [mayR, *]; done) | (simp [mayR, *] <;> (cases n.cells <;> (try simp) <;> omega)), rfl⟩

theorem in_cell {k : Int} {c : Cel} (hk : k = 1 ∨ k = 2) : rcB k c = cellB k c := by
  rw [Bool.eq_iff_iff]
  rcases hk with rfl | rfl
  · by_cases h6 : 100 < c.size
    · have h7 : ¬ c.size ≤ 100 := by omega
      simp [rcB, cellB, pageB, h6, h7]; omega
    · have h7 : c.size ≤ 100 := by omega
      simp [rcB, cellB, pageB, h6, h7]; omega
  · simp [rcB, cellB, pageB]; omega
theorem okN_cells {n : Nod} (hk : n.kind = 1 ∨ n.kind = 2) : okN n n.cells.length = cellsB n := by
  rw [Bool.eq_iff_iff]
  simp only [okN, riseB, cellsB, Bool.and_eq_true, List.all_eq_true, List.mem_range, badAt, Bool.not_or, Bool.not_not, upAt, Bool.or_eq_true]
  constructor
  · rintro ⟨h1, h2⟩ i hi
    refine ⟨by rw [← in_cell hk]; exact h2 i hi, ?_⟩
    rcases h1 i hi with h | h
    · simp at h; simp [h]
    · rw [bl_tri, h]; simp
  · intro h
    refine ⟨fun i hi => ?_, fun i hi => by rw [in_cell hk]; exact (h i hi).1⟩
    rcases Nat.eq_zero_or_pos i with e | e
    · simp [e]
    · have := (h i hi).2
      rw [bl_tri] at this
      simp [e] at this
      exact .inr this
theorem mayR_eq (n : Nod) : mayR n = mayB n := by
  unfold mayR mayB headB
  by_cases h1 : n.kind = 1
  · simp [h1, okN_cells (.inl h1)]
    rw [Bool.and_assoc, Bool.and_comm]
  · by_cases h2 : n.kind = 2
    · simp [h2, okN_cells (.inr h2)]
      rw [Bool.eq_iff_iff]
      simp [List.length_pos_iff]
      constructor <;> (rintro ⟨⟨⟨a, b⟩, c⟩, d⟩; exact ⟨⟨⟨by assumption, by assumption⟩, by assumption⟩, by assumption⟩)
    · by_cases h3 : n.kind = 3
      · simp [h3]
        rw [Bool.eq_iff_iff]
        simp
        have : 1 ≤ n.data.length ↔ ¬ n.data = [] := by cases n.data <;> simp
        constructor
        · rintro ⟨⟨⟨a, b⟩, c⟩, d⟩; exact ⟨⟨⟨a, this.2 c⟩, by omega⟩, b⟩
        · rintro ⟨⟨⟨a, b⟩, c⟩, d⟩; exact ⟨⟨⟨a, d⟩, this.1 b⟩, by omega⟩
      · by_cases h4 : n.kind = 4
        · simp [h4]
          rw [Bool.eq_iff_iff]
          simp
          constructor <;> (rintro ⟨⟨a, b⟩, c⟩; exact ⟨⟨a, c⟩, b⟩)
        · simp [h1, h2, h3, h4]
theorem mayR_c (n : Nod) (hn : n.cells.length ≤ 500000) : C Try.prog 32 [.d (nD n)] [] (fun r o => r = .d (.bool (mayR n)) ∧ o = []) := by
  have ok := cfT_ok trB0_ok
  refine C_of_run (fn := Try.f32) (body := mrC) true (by kernel_rfl) (by kernel_rfl) (by kernel_rfl) ?_
  refine WK.segA ok 1000 0 [(8, .d (.bool (riseB n.3)))] [] [1,3,4] [(List.map cD n.3).all isCel, decide ((List.map cD n.cells).length ≤ 500000)] [(.d (.bool (riseB (List.map toCel (List.map cD n.cells)))), .d (.bool (riseB n.3)))] rfl (by kernel_rfl : runSegA (cfT trB0) 1000 0 _ _ _ _ (ini 159 [.d (nD n)] []) = some (stackAt mrC 0, mrS n (riseB n.cells) 0, _, _)) (by refine ⟨?_, ?_, trivial⟩ <;> (first | exact all_isCel _ | exact decide_eq_true (by rw [List.length_map]; exact hn))) ⟨(by (refine .of_eq ?_; rw [toCel_map])), trivial⟩ ?_
  exact mayR_loop n hn
end Go.Proofs.Ytchmeldlpoimnaa
