/-
  The reference's Take, whole.
-/
import Derived.Test.YtchmeldlpoimnaaAmQ3
namespace Go.Proofs.Ytchmeldlpoimnaa
open Go.RowKit Am IntWalk
set_option maxRecDepth 100000
set_option linter.unusedVariables false
set_option linter.unusedSimpArgs false

theorem val1_lt (s : Bs) (a : Nat) : valR s a 1 < 256 := valR_lt s a 1
theorem val2_lt (s : Bs) (a : Nat) : valR s a 2 < 65536 := valR_lt s a 2
theorem cellR_adv (k : Int) (s : Bs) (a : Nat) : a + 1 ≤ (cellR k s a).2 := by
  unfold cellR; dsimp only
  split
  · split <;> (dsimp only; omega)
  · split <;> (dsimp only; omega)
theorem cellR_len (k : Int) (s : Bs) (a : Nat) : (cellBs k (cellR k s a).1).length ≤ 362 := by
  have h1 := part_len s (a + 1) (valR s a 1)
  have h2 := val1_lt s a
  unfold cellR; dsimp only
  have h3 : ∀ b c, (partR s b (if 100 < valR s c 2 then 100 else valR s c 2)).length ≤ 100 := fun b c => by
    refine Nat.le_trans (part_len s b _) ?_
    split <;> omega
  split
  · split <;> (refine Nat.le_trans (cell_len7 _ _ _ _ _) ?_; have := h3 (a + 1 + (valR s a 1).toNat + 2) (a + 1 + (valR s a 1).toNat); omega)
  · split <;> (refine Nat.le_trans (cell_len7 _ _ _ _ _) ?_; simp only [List.length_nil]; omega)
theorem cellsR_lens (k : Int) (s : Bs) : ∀ (m a : Nat), ((cellsR k s m a).flatMap (cellBs k)).length ≤ 362 * (s.length - a) ∧ (cellsR k s m a).length ≤ s.length - a
  | 0, a => by simp [cellsR]
  | m + 1, a => by
    unfold cellsR
    split
    · have h1 := cellR_len k s a
      have h2 := cellR_adv k s a
      have h3 := cellsR_lens k s m (cellR k s a).2
      simp only [List.flatMap_cons, List.length_append, List.length_cons]
      omega
    · simp
theorem parseR_nok (s : Bs) (h : s.length ≤ 4096) : Nok (parseR s) := by
  obtain ⟨q, hq⟩ : ∃ q : Nat, (if rk s != 1 then 7 else 3) = q := ⟨_, rfl⟩
  have hc := cellsR_lens (rk s) s (valR s 1 2).toNat q
  have hp : (partR s q (valR s 1 2)).length ≤ 65535 := by
    have := part_len s q (valR s 1 2)
    have := val2_lt s 1
    omega
  have hk : (0 : Int) ≤ rk s ∧ rk s < 256 := u8_in _
  refine ⟨hk, ?_, ?_⟩
  · unfold parseR; rw [hq]; dsimp only; split
    · omega
    · simp
  · rw [all_len, head_len]
    unfold parseR; rw [hq]; dsimp only
    clear hq
    split <;> split <;> split <;> (try simp only [List.flatMap_nil, List.length_nil]) <;> omega

set_option maxHeartbeats 1000000 in
theorem takeR_c (s : Bs) (hs : s.length ≤ 4096) : C Try.prog 34 [.d (.str s)] [] (fun r o => r = .tup [.d (nD (takeBy parseR s).1), .d (.int .i64 (takeBy parseR s).2)] ∧ o = []) := by
  have ok := cfT_ok tpC_ok
  refine C_of_run (fn := Try.f34) (body := rtC) true (by kernel_rfl) (by kernel_rfl) (by kernel_rfl) ?_
  obtain ⟨N, hN⟩ : ∃ N, parseR s = N := ⟨_, rfl⟩
  have hnok : Nok N := hN ▸ parseR_nok s hs
  have hres : takeBy parseR s = resN N s := by rw [← hN]; rfl
  obtain ⟨v1, hv1⟩ : ∃ x, valR s 0 1 = x := ⟨_, rfl⟩
  obtain ⟨v2, hv2⟩ : ∃ x, valR s 1 2 = x := ⟨_, rfl⟩
  obtain ⟨v3, hv3⟩ : ∃ x, valR s 3 4 = x := ⟨_, rfl⟩
  have hm2 : 0 ≤ v2 ∧ v2 ≤ 65535 := ⟨hv2 ▸ valR_nn s 1 2, by have := val2_lt s 1; omega⟩
  obtain ⟨k, hk⟩ : ∃ x, IntKind.u8.wrap v1 = x := ⟨_, rfl⟩
  have eN : N = ⟨k, if k != 1 then v3 else 0, if decide (k < 3) then cellsR k s v2.toNat (if k != 1 then 7 else 3) else [], if k == 3 then partR s (if k != 1 then 7 else 3) v2 else []⟩ := by
    rw [← hN]; unfold parseR rk; rw [hv1, hv2, hv3, hk]
  obtain ⟨dd, hdd⟩ : ∃ x, partR s (if k != 1 then 7 else 3) v2 = x := ⟨_, rfl⟩
  rw [hdd] at eN
  have lp : ∀ a : Nat, LpR k v2 s (if decide (k < 3) then cellsR k s v2.toNat a else []) a 0 [] := fun a => ⟨hm2.1, rfl, by simp⟩
  rcases Bool.eq_false_or_eq_true (Go.IntKind.u8.wrap v1 != 1 : Bool) with h20 | h20
  · skip
    rcases Bool.eq_false_or_eq_true (Go.IntKind.u8.wrap v1 == 3 : Bool) with h26 | h26
    · skip
      refine WK.segA ok 4000 0 [(104, RV.tup [RV.d (DV.str (putS N)), RV.d (DV.int Go.IntKind.i64 (putE N))]), (114, RV.d (DV.agg [DV.int Go.IntKind.u8 (0), DV.int Go.IntKind.i64 (0), DV.lst 4 [] false, DV.str []])), (13, RV.d (DV.int Go.IntKind.i64 v1)), (17, RV.d (DV.int Go.IntKind.i64 v2)), (22, RV.d (DV.int Go.IntKind.i64 v3)), (30, RV.d (DV.str dd)), (20, RV.d (DV.bool true)), (26, RV.d (DV.bool true))] [] [0, 2, 4, 5, 6, 7] [true, true, true, true, true, true, true, decide (0 ≤ v2 ∧ v2 ≤ 1000000)] [(RV.d (DV.int Go.IntKind.i64 (valR s 0 1)), RV.d (DV.int Go.IntKind.i64 v1)), (RV.d (DV.int Go.IntKind.i64 (valR s 1 2)), RV.d (DV.int Go.IntKind.i64 v2)), (RV.d (DV.bool (Go.IntKind.u8.wrap v1 != 1)), RV.d (DV.bool true)), (RV.d (DV.int Go.IntKind.i64 (valR s 3 4)), RV.d (DV.int Go.IntKind.i64 v3)), (RV.d (DV.bool (Go.IntKind.u8.wrap v1 == 3)), RV.d (DV.bool true)), (RV.d (DV.str (partR s 7 v2)), RV.d (DV.str dd))] rfl (by kernel_rfl : runSegA (cfT tpC) 4000 0 _ _ _ _ (ini 116 [.d (.str s)] []) = some (stackAt rtC 0, rtS0 s v2 (IntKind.u8.wrap v1) (v3) (dd) (7) 0, _, _)) (by refine ⟨?_, ?_, ?_, ?_, ?_, ?_, ?_, ?_, trivial⟩ <;> (first | with_reducible rfl | with_reducible exact decide_eq_true hm2.1 | exact decide_eq_true (by omega))) (by refine ⟨?_, ?_, le_bool h20, ?_, le_bool h26, ?_, trivial⟩ <;> (first | (refine .of_eq ?_; rw [hv1]; done) | (refine .of_eq ?_; rw [hv2]; done) | (refine .of_eq ?_; rw [hv3]; done) | (refine .of_eq ?_; rw [hk] at h20; rw [h20] at hdd; rw [← hdd]; rfl))) ?_
      rw [hk] at h20 h26 ⊢
      rw [h20, h26] at eN
      first | (exfalso; simp at h20 h26; omega) | (rw [hres]; have hw := rt_loop0 k s hs v2 v3 dd hm2 _ N eN hnok 7 0 (lp 7); exact hw) | (rw [hres]; have hw := rt_loop0 k s hs v2 v3 [] hm2 _ N eN hnok 7 0 (lp 7); exact hw) | (rw [hres]; have hw := rt_loop0 k s hs v2 0 [] hm2 _ N eN hnok 3 0 (lp 3); exact hw)
    · skip
      refine WK.segA ok 4000 0 [(104, RV.tup [RV.d (DV.str (putS N)), RV.d (DV.int Go.IntKind.i64 (putE N))]), (114, RV.d (DV.agg [DV.int Go.IntKind.u8 (0), DV.int Go.IntKind.i64 (0), DV.lst 4 [] false, DV.str []])), (13, RV.d (DV.int Go.IntKind.i64 v1)), (17, RV.d (DV.int Go.IntKind.i64 v2)), (22, RV.d (DV.int Go.IntKind.i64 v3)), (30, RV.d (DV.str dd)), (20, RV.d (DV.bool true)), (26, RV.d (DV.bool false))] [] [0, 2, 4, 5, 6, 7] [true, true, true, true, true, true] [(RV.d (DV.int Go.IntKind.i64 (valR s 0 1)), RV.d (DV.int Go.IntKind.i64 v1)), (RV.d (DV.int Go.IntKind.i64 (valR s 1 2)), RV.d (DV.int Go.IntKind.i64 v2)), (RV.d (DV.bool (Go.IntKind.u8.wrap v1 != 1)), RV.d (DV.bool true)), (RV.d (DV.int Go.IntKind.i64 (valR s 3 4)), RV.d (DV.int Go.IntKind.i64 v3)), (RV.d (DV.bool (Go.IntKind.u8.wrap v1 == 3)), RV.d (DV.bool false))] rfl (by kernel_rfl : runSegA (cfT tpC) 4000 0 _ _ _ _ (ini 116 [.d (.str s)] []) = some (stackAt rtC 0, rtS0 s v2 (IntKind.u8.wrap v1) (v3) ([]) (7) 0, _, _)) (by refine ⟨?_, ?_, ?_, ?_, ?_, ?_, trivial⟩ <;> (first | with_reducible rfl | with_reducible exact decide_eq_true hm2.1 | exact decide_eq_true (by omega))) (by refine ⟨?_, ?_, le_bool h20, ?_, le_bool h26, trivial⟩ <;> (first | (refine .of_eq ?_; rw [hv1]; done) | (refine .of_eq ?_; rw [hv2]; done) | (refine .of_eq ?_; rw [hv3]; done) | (refine .of_eq ?_; rw [hk] at h20; rw [h20] at hdd; rw [← hdd]; rfl))) ?_
      rw [hk] at h20 h26 ⊢
      rw [h20, h26] at eN
      first | (exfalso; simp at h20 h26; omega) | (rw [hres]; have hw := rt_loop0 k s hs v2 v3 dd hm2 _ N eN hnok 7 0 (lp 7); exact hw) | (rw [hres]; have hw := rt_loop0 k s hs v2 v3 [] hm2 _ N eN hnok 7 0 (lp 7); exact hw) | (rw [hres]; have hw := rt_loop0 k s hs v2 0 [] hm2 _ N eN hnok 3 0 (lp 3); exact hw)
  · skip
    rcases Bool.eq_false_or_eq_true (Go.IntKind.u8.wrap v1 == 3 : Bool) with h26 | h26
    · skip
      refine WK.segA ok 4000 0 [(104, RV.tup [RV.d (DV.str (putS N)), RV.d (DV.int Go.IntKind.i64 (putE N))]), (114, RV.d (DV.agg [DV.int Go.IntKind.u8 (0), DV.int Go.IntKind.i64 (0), DV.lst 4 [] false, DV.str []])), (13, RV.d (DV.int Go.IntKind.i64 v1)), (17, RV.d (DV.int Go.IntKind.i64 v2)), (22, RV.d (DV.int Go.IntKind.i64 v3)), (30, RV.d (DV.str dd)), (20, RV.d (DV.bool false)), (26, RV.d (DV.bool true))] [] [0, 2, 4, 5, 6, 7] [true, true, true, true, true, decide (0 ≤ v2 ∧ v2 ≤ 1000000)] [(RV.d (DV.int Go.IntKind.i64 (valR s 0 1)), RV.d (DV.int Go.IntKind.i64 v1)), (RV.d (DV.int Go.IntKind.i64 (valR s 1 2)), RV.d (DV.int Go.IntKind.i64 v2)), (RV.d (DV.bool (Go.IntKind.u8.wrap v1 != 1)), RV.d (DV.bool false)), (RV.d (DV.bool (Go.IntKind.u8.wrap v1 == 3)), RV.d (DV.bool true)), (RV.d (DV.str (partR s 3 v2)), RV.d (DV.str dd))] rfl (by kernel_rfl : runSegA (cfT tpC) 4000 0 _ _ _ _ (ini 116 [.d (.str s)] []) = some (stackAt rtC 0, rtS0 s v2 (IntKind.u8.wrap v1) ((0)) (dd) (3) 0, _, _)) (by refine ⟨?_, ?_, ?_, ?_, ?_, ?_, trivial⟩ <;> (first | with_reducible rfl | with_reducible exact decide_eq_true hm2.1 | exact decide_eq_true (by omega))) (by refine ⟨?_, ?_, le_bool h20, le_bool h26, ?_, trivial⟩ <;> (first | (refine .of_eq ?_; rw [hv1]; done) | (refine .of_eq ?_; rw [hv2]; done) | (refine .of_eq ?_; rw [hv3]; done) | (refine .of_eq ?_; rw [hk] at h20; rw [h20] at hdd; rw [← hdd]; rfl))) ?_
      rw [hk] at h20 h26 ⊢
      rw [h20, h26] at eN
      first | (exfalso; simp at h20 h26; omega) | (rw [hres]; have hw := rt_loop0 k s hs v2 v3 dd hm2 _ N eN hnok 7 0 (lp 7); exact hw) | (rw [hres]; have hw := rt_loop0 k s hs v2 v3 [] hm2 _ N eN hnok 7 0 (lp 7); exact hw) | (rw [hres]; have hw := rt_loop0 k s hs v2 0 [] hm2 _ N eN hnok 3 0 (lp 3); exact hw)
    · skip
      refine WK.segA ok 4000 0 [(104, RV.tup [RV.d (DV.str (putS N)), RV.d (DV.int Go.IntKind.i64 (putE N))]), (114, RV.d (DV.agg [DV.int Go.IntKind.u8 (0), DV.int Go.IntKind.i64 (0), DV.lst 4 [] false, DV.str []])), (13, RV.d (DV.int Go.IntKind.i64 v1)), (17, RV.d (DV.int Go.IntKind.i64 v2)), (22, RV.d (DV.int Go.IntKind.i64 v3)), (30, RV.d (DV.str dd)), (20, RV.d (DV.bool false)), (26, RV.d (DV.bool false))] [] [0, 2, 4, 5, 6, 7] [true, true, true, true] [(RV.d (DV.int Go.IntKind.i64 (valR s 0 1)), RV.d (DV.int Go.IntKind.i64 v1)), (RV.d (DV.int Go.IntKind.i64 (valR s 1 2)), RV.d (DV.int Go.IntKind.i64 v2)), (RV.d (DV.bool (Go.IntKind.u8.wrap v1 != 1)), RV.d (DV.bool false)), (RV.d (DV.bool (Go.IntKind.u8.wrap v1 == 3)), RV.d (DV.bool false))] rfl (by kernel_rfl : runSegA (cfT tpC) 4000 0 _ _ _ _ (ini 116 [.d (.str s)] []) = some (stackAt rtC 0, rtS0 s v2 (IntKind.u8.wrap v1) ((0)) ([]) (3) 0, _, _)) (by refine ⟨?_, ?_, ?_, ?_, trivial⟩ <;> (first | with_reducible rfl | with_reducible exact decide_eq_true hm2.1 | exact decide_eq_true (by omega))) (by refine ⟨?_, ?_, le_bool h20, le_bool h26, trivial⟩ <;> (first | (refine .of_eq ?_; rw [hv1]; done) | (refine .of_eq ?_; rw [hv2]; done) | (refine .of_eq ?_; rw [hv3]; done) | (refine .of_eq ?_; rw [hk] at h20; rw [h20] at hdd; rw [← hdd]; rfl))) ?_
      rw [hk] at h20 h26 ⊢
      rw [h20, h26] at eN
      first | (exfalso; simp at h20 h26; omega) | (rw [hres]; have hw := rt_loop0 k s hs v2 v3 dd hm2 _ N eN hnok 7 0 (lp 7); exact hw) | (rw [hres]; have hw := rt_loop0 k s hs v2 v3 [] hm2 _ N eN hnok 7 0 (lp 7); exact hw) | (rw [hres]; have hw := rt_loop0 k s hs v2 0 [] hm2 _ N eN hnok 3 0 (lp 3); exact hw)
noncomputable def takeREn : Ent := fun x o => match x, o with
  | [.d (.str s)], [] => some (.tup [.d (nD (takeBy parseR s).1), .d (.int .i64 (takeBy parseR s).2)], [], [decide (s.length ≤ 4096)])
  | _, _ => none
theorem takeR_ent : EntOk Try.prog 34 takeREn := by
  intro x o r o' c hg hc
  unfold takeREn at hg
  split at hg
  · rename_i s
    simp only [Option.some.injEq, Prod.mk.injEq] at hg
    obtain ⟨rfl, rfl, rfl⟩ := hg
    exact takeR_c s (of_decide_eq_true (hc _ (by simp)))
  · cases hg
noncomputable def tpD : List (Nat × Ent) := (34, takeREn) :: tpC
theorem tpD_ok : EntsOk Try.prog tpD := .cons takeR_ent tpC_ok
theorem take_eq (s : Bs) : takeBy parseR s = takeBy parseN s := take_same (fun _ => parseR_back) (fun _ => parse_back) s
end Go.Proofs.Ytchmeldlpoimnaa
