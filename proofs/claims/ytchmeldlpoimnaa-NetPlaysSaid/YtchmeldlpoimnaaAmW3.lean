/-
  NetTells: the contracts of net.New, heavy, works.
-/
import Derived.Test.YtchmeldlpoimnaaAmW2
namespace Go.Proofs.Ytchmeldlpoimnaa
open Go.RowKit Am IntWalk
set_option maxRecDepth 100000
set_option linter.unusedVariables false
set_option linter.unusedSimpArgs false

theorem new_ent : EntOk Try.prog 37 newEn := by
  intro p o r o' c hg hc
  unfold newEn at hg
  split at hg
  · simp only [Option.some.injEq, Prod.mk.injEq] at hg
    obtain ⟨rfl, rfl, rfl⟩ := hg
    have ok := cfT_ok tv5_ok
    refine C_of_run (fn := Try.f37) (body := bodyOf Try.f37) true (by kernel_rfl) (by kernel_rfl) (by kernel_rfl) ?_
    exact WK.fin ok 1000 0 [] [] [] rfl (by kernel_rfl : runEnd (cfT tv5) true _ 1000 0 _ _ (ini Try.f37.ntmps [] []) = some (RV.ptr 0 0, [PObj.box 115 [RV.map 1, RV.d (DV.int Go.IntKind.i64 (0))], PObj.map []], _, _)) trivial trivial ⟨rfl, rfl⟩
  · cases hg
theorem heavy_loop (l : List Opx) (hl : l.length ≤ 9223372036854775807) : WK Try.prog 0 (stackAt hvC 0) (hvS l 0 0).den (Ends (Try.f36.results.toList) (.d (.bool (heavyB l)))) := by
  have ok := cfT_ok tv5_ok
  refine WK.rec' (fun (q : Nat × Int) => hvS l q.1 q.2) (fun q => q.1 ≤ l.length ∧ 0 ≤ q.2 ∧ q.2 ≤ 16384 ∧ hvG l 0 = hvG (l.drop q.1) q.2) (fun q => l.length - q.1) ?_ (0, 0) ⟨Nat.zero_le _, by simp, by simp, by simp⟩
  rintro ⟨i, n⟩ ⟨hi, hn0, hn1, hg⟩ ih
  simp only at hi hn0 hn1 hg ih ⊢
  obtain ⟨x, hx⟩ : ∃ x, opAt l i = x := ⟨_, rfl⟩
  have hml : (l.map oD).length = l.length := List.length_map ..
  have hlt : decide ((Nat.cast (R := Int) i) < (Nat.cast (R := Int) (List.map oD l).length)) = true → i < l.length := fun h => by have := of_decide_eq_true h; omega
  have hget : i < l.length → (l.map oD).getD i .nilp = oD x := fun h => hx ▸ getD_oD _ _ h
  have hm : 0 ≤ m16 x.s ∧ m16 x.s ≤ 65536 := by unfold m16; split <;> omega
  have hdrop : i < l.length → hvG (l.drop i) n = if 16384 < n + m16 x.s then true else hvG (l.drop (i + 1)) (n + m16 x.s) := fun h => by
    rw [List.drop_eq_getElem_cons h, hvG, show l[i] = x from by rw [← hx]; simp [opAt, h]]
  rcases Bool.eq_false_or_eq_true (decide ((Nat.cast (R := Int) i) < (Nat.cast (R := Int) (List.map oD l).length)) : Bool) with h9 | h9
  · skip
    rcases Bool.eq_false_or_eq_true (decide (16384 < n + m16 x.s) : Bool) with h19 | h19
    · skip
      exact WK.fin ok 1000 0 [(10, RV.iptr (DV.agg [DV.int Go.IntKind.i64 x.1, DV.int Go.IntKind.i64 x.2, DV.int Go.IntKind.i64 x.3, DV.str x.4, DV.int Go.IntKind.u8 x.5]) 0), (17, RV.d (DV.int Go.IntKind.i64 (n + if 65536 < (Nat.cast (R := Int) x.s.length) then 65536 else (Nat.cast (R := Int) x.4.length)))), (20, RV.d (DV.int Go.IntKind.i64 (Nat.cast (R := Int) (i + 1)))), (9, RV.d (DV.bool true)), (19, RV.d (DV.bool true))] [decide (0 ≤ (Nat.cast (R := Int) i) ∧ (Nat.cast (R := Int) i) < (Nat.cast (R := Int) (List.map oD l).length))] [(RV.d (DV.bool (decide ((Nat.cast (R := Int) i) < (Nat.cast (R := Int) (List.map oD l).length)))), RV.d (DV.bool true)), (RV.iptr ((List.map oD l).getD (Nat.cast (R := Int) i).toNat DV.nilp) 0, RV.iptr (DV.agg [DV.int Go.IntKind.i64 x.1, DV.int Go.IntKind.i64 x.2, DV.int Go.IntKind.i64 x.3, DV.str x.4, DV.int Go.IntKind.u8 x.5]) 0), (RV.d (DV.int Go.IntKind.i64 (Go.IntKind.i64.wrap (n + if 65536 < (Nat.cast (R := Int) x.s.length) then 65536 else (Nat.cast (R := Int) x.4.length)))), RV.d (DV.int Go.IntKind.i64 (n + if 65536 < (Nat.cast (R := Int) x.s.length) then 65536 else (Nat.cast (R := Int) x.4.length)))), (RV.d (DV.bool (decide (16384 < n + m16 x.s))), RV.d (DV.bool true))] rfl (by kernel_rfl : runEnd (cfT tv5) true _ 1000 0 _ _ (hvS l i n) = some (RV.d (DV.bool true), [], _, _)) ⟨(by (refine decide_eq_true ?_; have := hlt h9; omega)), trivial⟩ (by refine ⟨le_bool h9, ?_, ?_, le_bool h19, trivial⟩ <;> (first | (refine .of_eq ?_; rw [i64_in (Nat.cast i + 1) (by have := hlt h9; omega)]; exact congrArg (fun x : Int => RV.d (.int .i64 x)) (by omega)) | (have hg := hget (hlt h9); refine .of_eq ?_; rw [Int.toNat_natCast, hg]; rfl) | (refine .of_eq ?_; exact congrArg (fun x : Int => RV.d (.int .i64 x)) (i64_in (n + m16 x.s) (by omega))))) (by first | (have h1 := hlt h9; have h2 := of_decide_eq_true h19; exact ⟨by unfold heavyB; rw [hg, hdrop h1, if_pos h2]; rfl, rfl⟩) | (have h1 : i = l.length := (by have := of_decide_eq_false h9; omega); exact ⟨by unfold heavyB; rw [hg, h1, List.drop_length, hml]; rfl, rfl⟩))
    · skip
      have hrun : runSegA (cfT tv5) 1000 0 [(10, RV.iptr (DV.agg [DV.int Go.IntKind.i64 x.1, DV.int Go.IntKind.i64 x.2, DV.int Go.IntKind.i64 x.3, DV.str x.4, DV.int Go.IntKind.u8 x.5]) 0), (17, RV.d (DV.int Go.IntKind.i64 (n + if 65536 < (Nat.cast (R := Int) x.s.length) then 65536 else (Nat.cast (R := Int) x.4.length)))), (20, RV.d (DV.int Go.IntKind.i64 (Nat.cast (R := Int) (i + 1)))), (9, RV.d (DV.bool true)), (19, RV.d (DV.bool false))] [] [0, 3, 6, 7, 8] (stackAt hvC 0) (hvS l i n) = some (stackAt hvC 0, hvS l (i + 1) (n + m16 x.s), [decide (0 ≤ (Nat.cast (R := Int) i) ∧ (Nat.cast (R := Int) i) < (Nat.cast (R := Int) (List.map oD l).length))], [(RV.d (DV.bool (decide ((Nat.cast (R := Int) i) < (Nat.cast (R := Int) (List.map oD l).length)))), RV.d (DV.bool true)), (RV.iptr ((List.map oD l).getD (Nat.cast (R := Int) i).toNat DV.nilp) 0, RV.iptr (DV.agg [DV.int Go.IntKind.i64 x.1, DV.int Go.IntKind.i64 x.2, DV.int Go.IntKind.i64 x.3, DV.str x.4, DV.int Go.IntKind.u8 x.5]) 0), (RV.d (DV.int Go.IntKind.i64 (Go.IntKind.i64.wrap (n + if 65536 < (Nat.cast (R := Int) x.s.length) then 65536 else (Nat.cast (R := Int) x.4.length)))), RV.d (DV.int Go.IntKind.i64 (n + if 65536 < (Nat.cast (R := Int) x.s.length) then 65536 else (Nat.cast (R := Int) x.4.length)))), (RV.d (DV.bool (decide (16384 < n + m16 x.s))), RV.d (DV.bool false)), (RV.d (DV.int Go.IntKind.i64 (Go.IntKind.i64.wrap ((Nat.cast (R := Int) i) + 1))), RV.d (DV.int Go.IntKind.i64 (Nat.cast (R := Int) (i + 1))))]) := by kernel_rfl
      refine WK.segA (st := (hvS l i n)) (st' := hvS l (i + 1) (n + m16 x.s)) (k := (stackAt hvC 0)) (k' := stackAt hvC 0) ok 1000 0 _ _ _ _ _ rfl hrun ⟨(by (refine decide_eq_true ?_; have := hlt h9; omega)), trivial⟩ (by refine ⟨le_bool h9, ?_, ?_, le_bool h19, ?_, trivial⟩ <;> (first | (refine .of_eq ?_; rw [i64_in (Nat.cast i + 1) (by have := hlt h9; omega)]; exact congrArg (fun x : Int => RV.d (.int .i64 x)) (by omega)) | (have hg := hget (hlt h9); refine .of_eq ?_; rw [Int.toNat_natCast, hg]; rfl) | (refine .of_eq ?_; exact congrArg (fun x : Int => RV.d (.int .i64 x)) (i64_in (n + m16 x.s) (by omega))))) ?_
      have h1 := hlt h9
      have h2 := of_decide_eq_false h19
      exact ih (i + 1, n + m16 x.s) ⟨by simp only; omega, by simp only; omega, by simp only; omega, by simp only; rw [hg, hdrop h1, if_neg h2]⟩ (by simp only; omega)
  · skip
    exact WK.fin ok 1000 0 [(10, RV.iptr (DV.agg [DV.int Go.IntKind.i64 x.1, DV.int Go.IntKind.i64 x.2, DV.int Go.IntKind.i64 x.3, DV.str x.4, DV.int Go.IntKind.u8 x.5]) 0), (17, RV.d (DV.int Go.IntKind.i64 (n + if 65536 < (Nat.cast (R := Int) x.s.length) then 65536 else (Nat.cast (R := Int) x.4.length)))), (20, RV.d (DV.int Go.IntKind.i64 (Nat.cast (R := Int) (i + 1)))), (9, RV.d (DV.bool false))] [] [(RV.d (DV.bool (decide ((Nat.cast (R := Int) i) < (Nat.cast (R := Int) (List.map oD l).length)))), RV.d (DV.bool false))] rfl (by kernel_rfl : runEnd (cfT tv5) true _ 1000 0 _ _ (hvS l i n) = some (RV.d (DV.bool (decide (300 < (Nat.cast (R := Int) (List.map oD l).length)))), [], _, _)) trivial ⟨le_bool h9, trivial⟩ (by first | (have h1 := hlt h9; have h2 := of_decide_eq_true h19; exact ⟨by unfold heavyB; rw [hg, hdrop h1, if_pos h2]; rfl, rfl⟩) | (have h1 : i = l.length := (by have := of_decide_eq_false h9; omega); exact ⟨by unfold heavyB; rw [hg, h1, List.drop_length, hml]; rfl, rfl⟩))
theorem heavy_ent : EntOk Try.prog 36 (e1 heavyG) := by
  refine ent1 fun x y c hg hc => ?_
  unfold heavyG at hg
  split at hg
  · rename_i els
    simp only [Option.some.injEq, Prod.mk.injEq] at hg
    obtain ⟨rfl, rfl⟩ := hg
    have h1 : els.all isO = true := hc _ (by simp)
    have h2 : els.length ≤ 9223372036854775807 := of_decide_eq_true (hc _ (by simp))
    have e := map_toO h1
    generalize els.map toO = l at *
    subst e
    rw [List.length_map] at h2
    have ok := cfT_ok tv5_ok
    refine C_of_run (fn := Try.f36) (body := hvC) true (by kernel_rfl) (by kernel_rfl) (by kernel_rfl) ?_
    refine WK.segA ok 1000 0 [] [] [0, 3, 6, 7, 8] [] [] rfl (by kernel_rfl : runSegA (cfT tv5) 1000 0 _ _ _ _ (ini Try.f36.ntmps [.d (.lst 5 (l.map oD) false)] []) = some (stackAt hvC 0, hvS l 0 0, _, _)) trivial trivial ?_
    exact heavy_loop l h2
  · cases hg
theorem entsApp {l l2 : List (Nat × Ent)} (h : EntsOk Try.prog l) (h2 : EntsOk Try.prog l2) : EntsOk Try.prog (l ++ l2) := by
  induction h with
  | nil => exact h2
  | cons h1 _ ih => exact .cons h1 ih
theorem works_ent : EntOk Try.prog 35 (e0 (some (.bool true, []))) := by
  refine e0_ok fun y c hg _ => ?_
  simp only [Option.some.injEq, Prod.mk.injEq] at hg
  obtain ⟨rfl, rfl⟩ := hg
  exact of_isTrue (lay_ok (tv5 ++ tb) (entsApp tv5_ok tb_ok) brf 6000 1200 6) (by kernel_rfl : isTrue (layer Try.prog (konOf (tv5 ++ tb)) brf cok 6000 1200 6 35 [] []) = true)
theorem tw0_ok : EntsOk Try.prog tw0 := .cons new_ent (.cons heavy_ent (.cons works_ent tv5_ok))
end Go.Proofs.Ytchmeldlpoimnaa
