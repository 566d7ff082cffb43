/-
  Letters: Send, Deliver, Drop, Twice, Spoil.
-/
import Derived.Test.YtchmeldlpoimnaaAmV2
namespace Go.Proofs.Ytchmeldlpoimnaa
open Go.RowKit Am IntWalk
set_option maxRecDepth 100000
set_option linter.unusedVariables false
set_option linter.unusedSimpArgs false

noncomputable abbrev bodyOf (f : Func) : Code := (f.body).getD .skip
theorem keys_rows' (L : List Ltr) : keysOk ((Env.of Try.prog).und 3) (rows (unrows (rows L))) = true := by rw [un_rows]; exact keys_rows L
theorem isRows_of {L : List Ltr} {last : Int} (h : NetOk L last) : isRows (rows L) last = true := (isRows_iff _ _).2 h
theorem isRows_of' {L : List Ltr} {last : Int} (h : NetOk L last) : isRows (rows (unrows (rows L))) last = true := by rw [un_rows]; exact isRows_of h

theorem send_0 {a b : Int} {s : List UInt8} {L : List Ltr} {last : Int} (h : (!isN a) = true) : sendN a b s L last = (0, 2, L, last) := by
  unfold sendN; rw [if_pos (by simp at h; simp [h])]
theorem send_1 {a b : Int} {s : List UInt8} {L : List Ltr} {last : Int} (h : (!isN b) = true) : sendN a b s L last = (0, 2, L, last) := by
  unfold sendN; rw [if_pos (by simp at h; simp [h])]
theorem send_2 {a b : Int} {s : List UInt8} {L : List Ltr} {last : Int} (h : (!isN a) = false) (h2 : (!isN b) = false) (h3 : decide ((262144 : Int) < (Nat.cast (R := Int) s.length)) = true) : sendN a b s L last = (0, 3, L, last) := by
  unfold sendN; rw [if_neg (by simp at h h2; simp [h, h2]), if_pos (by have := of_decide_eq_true h3; omega)]
theorem send_3 {a b : Int} {s : List UInt8} {L : List Ltr} {last : Int} (h : (!isN a) = false) (h2 : (!isN b) = false) (h3 : decide ((262144 : Int) < (Nat.cast (R := Int) s.length)) = false) : sendN a b s L last = addN ⟨0, a, b, s, false⟩ (unrows (rows L)) last := by
  unfold sendN; rw [if_neg (by simp at h h2; simp [h, h2]), if_neg (by have := of_decide_eq_false h3; omega), un_rows]
theorem send_c (a b : Int) (s : List UInt8) (L : List Ltr) (last : Int) (h : NetOk L last) (hl : last < 1000000) : C Try.prog 38 [.ptr 0 0, .d (.int .i64 a), .d (.int .i64 b), .d (.str s)] (netO L last)
    (fun r o => r = .tup [.d (.int .i64 (sendN a b s L last).1), .d (.int .i64 (sendN a b s L last).2.1)] ∧ o = netO (sendN a b s L last).2.2.1 (sendN a b s L last).2.2.2) := by
  have ok := cfT_ok tv1_ok
  refine C_of_run (fn := Try.f38) (body := bodyOf Try.f38) true (by kernel_rfl) (by kernel_rfl) (by kernel_rfl) ?_
  rcases Bool.eq_false_or_eq_true (!isN a : Bool) with h17 | h17
  · skip
    exact WK.fin ok 1000 0 [(17, RV.d (DV.bool true))] [] [(RV.d (DV.bool !isN a), RV.d (DV.bool true))] rfl (by kernel_rfl : runEnd (cfT tv1) true _ 1000 0 _ _ (ini Try.f38.ntmps [.ptr 0 0, .d (.int .i64 a), .d (.int .i64 b), .d (.str s)] (netO L last)) = some (RV.tup [RV.d (DV.int Go.IntKind.i64 (0)), RV.d (DV.int Go.IntKind.i64 (2))], [PObj.box 115 [RV.map 1, RV.d (DV.int Go.IntKind.i64 last)], PObj.map (rows L)], _, _)) trivial ⟨le_bool h17, trivial⟩ (by first | (exact ⟨by rw [send_0 h17], by rw [send_0 h17]; rfl⟩) | (exact ⟨by rw [send_1 h21], by rw [send_1 h21]; rfl⟩) | (exact ⟨by rw [send_2 h17 h21 h25], by rw [send_2 h17 h21 h25]; rfl⟩) | (exact ⟨by rw [send_3 h17 h21 h25]; rfl, by rw [send_3 h17 h21 h25]; rfl⟩))
  · skip
    rcases Bool.eq_false_or_eq_true (!isN b : Bool) with h21 | h21
    · skip
      exact WK.fin ok 1000 0 [(17, RV.d (DV.bool false)), (21, RV.d (DV.bool true))] [] [(RV.d (DV.bool !isN a), RV.d (DV.bool false)), (RV.d (DV.bool !isN b), RV.d (DV.bool true))] rfl (by kernel_rfl : runEnd (cfT tv1) true _ 1000 0 _ _ (ini Try.f38.ntmps [.ptr 0 0, .d (.int .i64 a), .d (.int .i64 b), .d (.str s)] (netO L last)) = some (RV.tup [RV.d (DV.int Go.IntKind.i64 (0)), RV.d (DV.int Go.IntKind.i64 (2))], [PObj.box 115 [RV.map 1, RV.d (DV.int Go.IntKind.i64 last)], PObj.map (rows L)], _, _)) trivial ⟨le_bool h17, le_bool h21, trivial⟩ (by first | (exact ⟨by rw [send_0 h17], by rw [send_0 h17]; rfl⟩) | (exact ⟨by rw [send_1 h21], by rw [send_1 h21]; rfl⟩) | (exact ⟨by rw [send_2 h17 h21 h25], by rw [send_2 h17 h21 h25]; rfl⟩) | (exact ⟨by rw [send_3 h17 h21 h25]; rfl, by rw [send_3 h17 h21 h25]; rfl⟩))
    · skip
      rcases Bool.eq_false_or_eq_true (decide (262144 < (Nat.cast (R := Int) s.length)) : Bool) with h25 | h25
      · skip
        exact WK.fin ok 1000 0 [(17, RV.d (DV.bool false)), (21, RV.d (DV.bool false)), (25, RV.d (DV.bool true))] [] [(RV.d (DV.bool !isN a), RV.d (DV.bool false)), (RV.d (DV.bool !isN b), RV.d (DV.bool false)), (RV.d (DV.bool (decide (262144 < (Nat.cast (R := Int) s.length)))), RV.d (DV.bool true))] rfl (by kernel_rfl : runEnd (cfT tv1) true _ 1000 0 _ _ (ini Try.f38.ntmps [.ptr 0 0, .d (.int .i64 a), .d (.int .i64 b), .d (.str s)] (netO L last)) = some (RV.tup [RV.d (DV.int Go.IntKind.i64 (0)), RV.d (DV.int Go.IntKind.i64 (3))], [PObj.box 115 [RV.map 1, RV.d (DV.int Go.IntKind.i64 last)], PObj.map (rows L)], _, _)) trivial ⟨le_bool h17, le_bool h21, le_bool h25, trivial⟩ (by first | (exact ⟨by rw [send_0 h17], by rw [send_0 h17]; rfl⟩) | (exact ⟨by rw [send_1 h21], by rw [send_1 h21]; rfl⟩) | (exact ⟨by rw [send_2 h17 h21 h25], by rw [send_2 h17 h21 h25]; rfl⟩) | (exact ⟨by rw [send_3 h17 h21 h25]; rfl, by rw [send_3 h17 h21 h25]; rfl⟩))
      · skip
        exact WK.fin ok 1000 0 [(17, RV.d (DV.bool false)), (21, RV.d (DV.bool false)), (25, RV.d (DV.bool false))] [true, isRows (rows L) last, decide (last < 1000000)] [(RV.d (DV.bool !isN a), RV.d (DV.bool false)), (RV.d (DV.bool !isN b), RV.d (DV.bool false)), (RV.d (DV.bool (decide (262144 < (Nat.cast (R := Int) s.length)))), RV.d (DV.bool false))] rfl (by kernel_rfl : runEnd (cfT tv1) true _ 1000 0 _ _ (ini Try.f38.ntmps [.ptr 0 0, .d (.int .i64 a), .d (.int .i64 b), .d (.str s)] (netO L last)) = some (RV.tup [RV.d (DV.int Go.IntKind.i64 (addN (toL (DV.agg [DV.int Go.IntKind.i64 (0), DV.int Go.IntKind.i64 a, DV.int Go.IntKind.i64 b, DV.str s, DV.bool false])) (unrows (rows L)) last).1), RV.d (DV.int Go.IntKind.i64 (addN (toL (DV.agg [DV.int Go.IntKind.i64 (0), DV.int Go.IntKind.i64 a, DV.int Go.IntKind.i64 b, DV.str s, DV.bool false])) (unrows (rows L)) last).snd.1)], [PObj.box 115 [RV.map 1, RV.d (DV.int Go.IntKind.i64 (addN (toL (DV.agg [DV.int Go.IntKind.i64 (0), DV.int Go.IntKind.i64 a, DV.int Go.IntKind.i64 b, DV.str s, DV.bool false])) (unrows (rows L)) last).snd.snd.2)], PObj.map (rows (addN (toL (DV.agg [DV.int Go.IntKind.i64 (0), DV.int Go.IntKind.i64 a, DV.int Go.IntKind.i64 b, DV.str s, DV.bool false])) (unrows (rows L)) last).snd.snd.fst)], _, _)) (by refine ⟨?_, ?_, ?_, trivial⟩ <;> (first | with_reducible rfl | exact isRows_of h | exact decide_eq_true hl)) ⟨le_bool h17, le_bool h21, le_bool h25, trivial⟩ (by first | (exact ⟨by rw [send_0 h17], by rw [send_0 h17]; rfl⟩) | (exact ⟨by rw [send_1 h21], by rw [send_1 h21]; rfl⟩) | (exact ⟨by rw [send_2 h17 h21 h25], by rw [send_2 h17 h21 h25]; rfl⟩) | (exact ⟨by rw [send_3 h17 h21 h25]; rfl, by rw [send_3 h17 h21 h25]; rfl⟩))
def sendEn : Ent := fun p o => match p, o with
  | [.ptr 0 0, .d (.int .i64 a), .d (.int .i64 b), .d (.str s)], [.box 115 [.map 1, .d (.int .i64 last)], .map es] =>
    some (.tup [.d (.int .i64 (sendN a b s (unrows es) last).1), .d (.int .i64 (sendN a b s (unrows es) last).2.1)], netO (sendN a b s (unrows es) last).2.2.1 (sendN a b s (unrows es) last).2.2.2, [isRows es last, decide (last < 1000000)])
  | _, _ => none
theorem send_ent : EntOk Try.prog 38 sendEn := by
  intro p o r o' c hg hc
  unfold sendEn at hg
  split at hg
  · rename_i a b s last es
    simp only [Option.some.injEq, Prod.mk.injEq] at hg
    obtain ⟨rfl, rfl, rfl⟩ := hg
    obtain ⟨h2, h3⟩ := isRows_un (hc (isRows es last) (by simp))
    have h4 : last < 1000000 := of_decide_eq_true (hc _ (by simp))
    have := send_c a b s (unrows es) last h3 h4
    unfold netO at this
    rw [← h2] at this
    exact this
  · cases hg

theorem deliver_c (id : Int) (L : List Ltr) (last : Int) (h : NetOk L last) : C Try.prog 39 [.ptr 0 0, .d (.int .i64 id)] (netO L last)
    (fun r o => r = .tup [.d (lD (findN id L).1), .d (.int .i64 (findN id L).2)] ∧ o = netO (del id L) last) := by
  have ok := cfT_ok tv1_ok
  refine C_of_run (fn := Try.f39) (body := bodyOf Try.f39) true (by kernel_rfl) (by kernel_rfl) (by kernel_rfl) ?_
  cases hf : fnd id L with
  | some x =>
    have e : findN id L = (x, 0) := by unfold findN; rw [hf]
    exact WK.fin ok 1000 0 [(11, RV.tup [RV.d (DV.agg [DV.int Go.IntKind.i64 x.1, DV.int Go.IntKind.i64 x.2, DV.int Go.IntKind.i64 x.3, DV.str x.4, DV.bool x.5]), RV.d (DV.int Go.IntKind.i64 (0))])] [isRows (rows L) last, (rows (unrows (rows L))).all fun p => keyOk ((cfT tv1).E.und (3)) p.fst] [(RV.tup [RV.d (DV.agg [DV.int Go.IntKind.i64 (findN id (unrows (rows L))).fst.1, DV.int Go.IntKind.i64 (findN id (unrows (rows L))).fst.2, DV.int Go.IntKind.i64 (findN id (unrows (rows L))).fst.3, DV.str (findN id (unrows (rows L))).fst.4, DV.bool (findN id (unrows (rows L))).fst.5]), RV.d (DV.int Go.IntKind.i64 (findN id (unrows (rows L))).2)], RV.tup [RV.d (DV.agg [DV.int Go.IntKind.i64 x.1, DV.int Go.IntKind.i64 x.2, DV.int Go.IntKind.i64 x.3, DV.str x.4, DV.bool x.5]), RV.d (DV.int Go.IntKind.i64 (0))])] rfl (by kernel_rfl : runEnd (cfT tv1) true _ 1000 0 _ _ (ini Try.f39.ntmps [.ptr 0 0, .d (.int .i64 id)] (netO L last)) = some (RV.tup [RV.d (DV.agg [DV.int Go.IntKind.i64 x.1, DV.int Go.IntKind.i64 x.2, DV.int Go.IntKind.i64 x.3, DV.str x.4, DV.bool x.5]), RV.d (DV.int Go.IntKind.i64 (0))], [PObj.box 115 [RV.map 1, RV.d (DV.int Go.IntKind.i64 last)], PObj.map (mdel (DV.int Go.IntKind.i64 id) (rows (unrows (rows L))))], _, _)) (by refine ⟨?_, ?_, trivial⟩ <;> (first | exact isRows_of h | exact keys_rows' L)) ⟨(by (refine .of_eq ?_; rw [un_rows, e]; done)), trivial⟩ ⟨by rw [e]; rfl, by rw [un_rows, mdel_rows]; rfl⟩
  | none =>
    have e : findN id L = (zL, 4) := by unfold findN; rw [hf]
    exact WK.fin ok 1000 0 [(11, RV.tup [RV.d (DV.agg [DV.int Go.IntKind.i64 (0), DV.int Go.IntKind.i64 (0), DV.int Go.IntKind.i64 (0), DV.str [], DV.bool false]), RV.d (DV.int Go.IntKind.i64 (4))])] [isRows (rows L) last] [(RV.tup [RV.d (DV.agg [DV.int Go.IntKind.i64 (findN id (unrows (rows L))).fst.1, DV.int Go.IntKind.i64 (findN id (unrows (rows L))).fst.2, DV.int Go.IntKind.i64 (findN id (unrows (rows L))).fst.3, DV.str (findN id (unrows (rows L))).fst.4, DV.bool (findN id (unrows (rows L))).fst.5]), RV.d (DV.int Go.IntKind.i64 (findN id (unrows (rows L))).2)], RV.tup [RV.d (DV.agg [DV.int Go.IntKind.i64 (0), DV.int Go.IntKind.i64 (0), DV.int Go.IntKind.i64 (0), DV.str [], DV.bool false]), RV.d (DV.int Go.IntKind.i64 (4))])] rfl (by kernel_rfl : runEnd (cfT tv1) true _ 1000 0 _ _ (ini Try.f39.ntmps [.ptr 0 0, .d (.int .i64 id)] (netO L last)) = some (RV.tup [RV.d (DV.agg [DV.int Go.IntKind.i64 (0), DV.int Go.IntKind.i64 (0), DV.int Go.IntKind.i64 (0), DV.str [], DV.bool false]), RV.d (DV.int Go.IntKind.i64 (4))], [PObj.box 115 [RV.map 1, RV.d (DV.int Go.IntKind.i64 last)], PObj.map (rows (unrows (rows L)))], _, _)) ⟨(by first | exact isRows_of h | exact keys_rows' L), trivial⟩ ⟨(by (refine .of_eq ?_; rw [un_rows, e]; rfl)), trivial⟩ ⟨by rw [e]; rfl, by rw [un_rows, del_none hf]; rfl⟩
def delEn : Ent := fun p o => match p, o with
  | [.ptr 0 0, .d (.int .i64 id)], [.box 115 [.map 1, .d (.int .i64 last)], .map es] =>
    some (.tup [.d (lD (findN id (unrows es)).1), .d (.int .i64 (findN id (unrows es)).2)], netO (del id (unrows es)) last, [isRows es last])
  | _, _ => none
theorem del_ent : EntOk Try.prog 39 delEn := by
  intro p o r o' c hg hc
  unfold delEn at hg
  split at hg
  · rename_i id last es
    simp only [Option.some.injEq, Prod.mk.injEq] at hg
    obtain ⟨rfl, rfl, rfl⟩ := hg
    obtain ⟨h2, h3⟩ := isRows_un (hc (isRows es last) (by simp))
    have := deliver_c id (unrows es) last h3
    unfold netO at this
    rw [← h2] at this
    exact this
  · cases hg

theorem twice_c (id : Int) (L : List Ltr) (last : Int) (h : NetOk L last) (hl : last < 1000000) : C Try.prog 41 [.ptr 0 0, .d (.int .i64 id)] (netO L last)
    (fun r o => r = .tup [.d (.int .i64 (twiceN id L last).1), .d (.int .i64 (twiceN id L last).2.1)] ∧ o = netO (twiceN id L last).2.2.1 (twiceN id L last).2.2.2) := by
  have ok := cfT_ok tv1_ok
  refine C_of_run (fn := Try.f41) (body := bodyOf Try.f41) true (by kernel_rfl) (by kernel_rfl) (by kernel_rfl) ?_
  cases hf : fnd id L with
  | some x =>
    have e : findN id L = (x, 0) := by unfold findN; rw [hf]
    have e2 : twiceN id L last = addN x (unrows (rows (unrows (rows L)))) last := by unfold twiceN; rw [hf, un_rows, un_rows]
    exact WK.fin ok 1000 0 [(11, RV.tup [RV.d (DV.agg [DV.int Go.IntKind.i64 x.1, DV.int Go.IntKind.i64 x.2, DV.int Go.IntKind.i64 x.3, DV.str x.4, DV.bool x.5]), RV.d (DV.int Go.IntKind.i64 (0))])] [isRows (rows L) last, true, isRows (rows (unrows (rows L))) last, decide (last < 1000000)] [(RV.tup [RV.d (DV.agg [DV.int Go.IntKind.i64 (findN id (unrows (rows L))).fst.1, DV.int Go.IntKind.i64 (findN id (unrows (rows L))).fst.2, DV.int Go.IntKind.i64 (findN id (unrows (rows L))).fst.3, DV.str (findN id (unrows (rows L))).fst.4, DV.bool (findN id (unrows (rows L))).fst.5]), RV.d (DV.int Go.IntKind.i64 (findN id (unrows (rows L))).2)], RV.tup [RV.d (DV.agg [DV.int Go.IntKind.i64 x.1, DV.int Go.IntKind.i64 x.2, DV.int Go.IntKind.i64 x.3, DV.str x.4, DV.bool x.5]), RV.d (DV.int Go.IntKind.i64 (0))])] rfl (by kernel_rfl : runEnd (cfT tv1) true _ 1000 0 _ _ (ini Try.f41.ntmps [.ptr 0 0, .d (.int .i64 id)] (netO L last)) = some (RV.tup [RV.d (DV.int Go.IntKind.i64 (addN (toL (DV.agg [DV.int Go.IntKind.i64 x.id, DV.int Go.IntKind.i64 x.frm, DV.int Go.IntKind.i64 x.dst, DV.str x.bs, DV.bool x.sp])) (unrows (rows (unrows (rows L)))) last).1), RV.d (DV.int Go.IntKind.i64 (addN (toL (DV.agg [DV.int Go.IntKind.i64 x.id, DV.int Go.IntKind.i64 x.frm, DV.int Go.IntKind.i64 x.dst, DV.str x.bs, DV.bool x.sp])) (unrows (rows (unrows (rows L)))) last).snd.1)], [PObj.box 115 [RV.map 1, RV.d (DV.int Go.IntKind.i64 (addN (toL (DV.agg [DV.int Go.IntKind.i64 x.id, DV.int Go.IntKind.i64 x.frm, DV.int Go.IntKind.i64 x.dst, DV.str x.bs, DV.bool x.sp])) (unrows (rows (unrows (rows L)))) last).snd.snd.2)], PObj.map (rows (addN (toL (DV.agg [DV.int Go.IntKind.i64 x.id, DV.int Go.IntKind.i64 x.frm, DV.int Go.IntKind.i64 x.dst, DV.str x.bs, DV.bool x.sp])) (unrows (rows (unrows (rows L)))) last).snd.snd.fst)], _, _)) (by refine ⟨?_, ?_, ?_, ?_, trivial⟩ <;> (first | exact isRows_of h | exact isRows_of' h | with_reducible rfl | exact decide_eq_true hl)) ⟨(by (refine .of_eq ?_; rw [un_rows, e]; done)), trivial⟩ ⟨by rw [e2]; rfl, by rw [e2]; rfl⟩
  | none =>
    have e : findN id L = (zL, 4) := by unfold findN; rw [hf]
    have e2 : twiceN id L last = (0, 4, L, last) := by unfold twiceN; rw [hf]
    exact WK.fin ok 1000 0 [(11, RV.tup [RV.d (DV.agg [DV.int Go.IntKind.i64 (0), DV.int Go.IntKind.i64 (0), DV.int Go.IntKind.i64 (0), DV.str [], DV.bool false]), RV.d (DV.int Go.IntKind.i64 (4))])] [isRows (rows L) last] [(RV.tup [RV.d (DV.agg [DV.int Go.IntKind.i64 (findN id (unrows (rows L))).fst.1, DV.int Go.IntKind.i64 (findN id (unrows (rows L))).fst.2, DV.int Go.IntKind.i64 (findN id (unrows (rows L))).fst.3, DV.str (findN id (unrows (rows L))).fst.4, DV.bool (findN id (unrows (rows L))).fst.5]), RV.d (DV.int Go.IntKind.i64 (findN id (unrows (rows L))).2)], RV.tup [RV.d (DV.agg [DV.int Go.IntKind.i64 (0), DV.int Go.IntKind.i64 (0), DV.int Go.IntKind.i64 (0), DV.str [], DV.bool false]), RV.d (DV.int Go.IntKind.i64 (4))])] rfl (by kernel_rfl : runEnd (cfT tv1) true _ 1000 0 _ _ (ini Try.f41.ntmps [.ptr 0 0, .d (.int .i64 id)] (netO L last)) = some (RV.tup [RV.d (DV.int Go.IntKind.i64 (0)), RV.d (DV.int Go.IntKind.i64 (4))], [PObj.box 115 [RV.map 1, RV.d (DV.int Go.IntKind.i64 last)], PObj.map (rows (unrows (rows L)))], _, _)) ⟨(by first | exact isRows_of h | exact isRows_of' h | with_reducible rfl | exact decide_eq_true hl), trivial⟩ ⟨(by (refine .of_eq ?_; rw [un_rows, e]; rfl)), trivial⟩ ⟨by rw [e2], by rw [un_rows, e2]; rfl⟩
def twiceEn : Ent := fun p o => match p, o with
  | [.ptr 0 0, .d (.int .i64 id)], [.box 115 [.map 1, .d (.int .i64 last)], .map es] =>
    some (.tup [.d (.int .i64 (twiceN id (unrows es) last).1), .d (.int .i64 (twiceN id (unrows es) last).2.1)], netO (twiceN id (unrows es) last).2.2.1 (twiceN id (unrows es) last).2.2.2, [isRows es last, decide (last < 1000000)])
  | _, _ => none
theorem twice_ent : EntOk Try.prog 41 twiceEn := by
  intro p o r o' c hg hc
  unfold twiceEn at hg
  split at hg
  · rename_i id last es
    simp only [Option.some.injEq, Prod.mk.injEq] at hg
    obtain ⟨rfl, rfl, rfl⟩ := hg
    obtain ⟨h2, h3⟩ := isRows_un (hc (isRows es last) (by simp))
    have h4 : last < 1000000 := of_decide_eq_true (hc _ (by simp))
    have := twice_c id (unrows es) last h3 h4
    unfold netO at this
    rw [← h2] at this
    exact this
  · cases hg

theorem u8s_len (s : List UInt8) : (u8s s).length = s.length := List.length_map ..
theorem u8s_getD {s : List UInt8} {i : Nat} (h : i < s.length) : (u8s s).getD i .nilp = .int .u8 ((s.getD i 0).toNat : Int) := by
  simp [u8s, h]
theorem map_byte (s : List UInt8) (i : Nat) (v : DV) : List.map DV.byte ((u8s s).set i v) = s.set i (DV.byte v) := by
  rw [List.map_set]
  congr 1
  simp [u8s, DV.byte, Function.comp_def]
theorem all_byte (s : List UInt8) (i : Nat) (v : Int) : ((s.map fun b => DV.int .u8 (b.toNat : Int)).set i (.int .u8 v)).all DV.isByte = true := by
  rw [List.all_eq_true]
  intro x hx
  rcases List.mem_or_eq_of_mem_set hx with h | h
  · obtain ⟨b, _, rfl⟩ := List.mem_map.1 h; rfl
  · subst h; rfl
theorem spoil_c (id a y : Int) (L : List Ltr) (last : Int) (h : NetOk L last) : C Try.prog 42 [.ptr 0 0, .d (.int .i64 id), .d (.int .i64 a), .d (.int .u8 y)] (netO L last)
    (fun r o => r = .d (.int .i64 (spoilN id a y L).1) ∧ o = netO (spoilN id a y L).2 last) := by
  have ok := cfT_ok tv1_ok
  refine C_of_run (fn := Try.f42) (body := bodyOf Try.f42) true (by kernel_rfl) (by kernel_rfl) (by kernel_rfl) ?_
  cases hf : fnd id L with
  | some x =>
    have hid := (fnd_some hf).2
    have e : findN id L = (x, 0) := by unfold findN; rw [hf]
    have e2 : ∀ v, spoilE x a y = v → v ≠ 0 → spoilN id a y L = (v, L) := fun v hv h0 => by unfold spoilN; rw [hf]; simp only; rw [hv, if_neg h0]
    have e3 : spoilE x a y = 0 → spoilN id a y L = (0, rep (spoilL x a y) L) := fun hv => by unfold spoilN; rw [hf]; simp only; rw [if_pos hv]
    obtain ⟨n, hn⟩ : ∃ n : Int, ((x.bs.getD a.toNat 0).toNat : Int) = n := ⟨_, rfl⟩
    have hm : mput (.int .i64 id) (.agg [.int .i64 x.id, .int .i64 x.frm, .int .i64 x.dst, .str (List.map DV.byte ((u8s x.bs).set a.toNat (.int .u8 (bits .xor .u8 n y)))), .bool true]) (rows (unrows (rows L))) = rows (rep (spoilL x a y) L) := by
      rw [un_rows, map_byte, ← hn, ← hid]
      exact mput_rep (spoilL x a y) L (by show (fnd x.id L).isSome = true; rw [hid, hf]; rfl)
    rcases Bool.eq_false_or_eq_true (x.5 : Bool) with h24 | h24
    · skip
      exact WK.fin ok 1000 0 [(15, RV.tup [RV.d (DV.agg [DV.int Go.IntKind.i64 x.1, DV.int Go.IntKind.i64 x.2, DV.int Go.IntKind.i64 x.3, DV.str x.4, DV.bool x.5]), RV.d (DV.int Go.IntKind.i64 (0))]), (44, RV.d (DV.int Go.IntKind.u8 n)), (24, RV.d (DV.bool true))] [isRows (rows L) last] [(RV.tup [RV.d (DV.agg [DV.int Go.IntKind.i64 (findN id (unrows (rows L))).fst.1, DV.int Go.IntKind.i64 (findN id (unrows (rows L))).fst.2, DV.int Go.IntKind.i64 (findN id (unrows (rows L))).fst.3, DV.str (findN id (unrows (rows L))).fst.4, DV.bool (findN id (unrows (rows L))).fst.5]), RV.d (DV.int Go.IntKind.i64 (findN id (unrows (rows L))).2)], RV.tup [RV.d (DV.agg [DV.int Go.IntKind.i64 x.1, DV.int Go.IntKind.i64 x.2, DV.int Go.IntKind.i64 x.3, DV.str x.4, DV.bool x.5]), RV.d (DV.int Go.IntKind.i64 (0))]), (RV.d (DV.bool x.5), RV.d (DV.bool true))] rfl (by kernel_rfl : runEnd (cfT tv1) true _ 1000 0 _ _ (ini Try.f42.ntmps [.ptr 0 0, .d (.int .i64 id), .d (.int .i64 a), .d (.int .u8 y)] (netO L last)) = some (RV.d (DV.int Go.IntKind.i64 (9)), [PObj.box 115 [RV.map 1, RV.d (DV.int Go.IntKind.i64 last)], PObj.map (rows (unrows (rows L)))], _, _)) ⟨(by (first | exact isRows_of h | exact keys_rows' L | exact all_byte _ _ _ | (have h1 := of_decide_eq_false h28; have h2 := of_decide_eq_false h34; first | (exact decide_eq_true (by rw [u8s_len]; omega)) | (rw [u8s_getD (by omega)]; rfl)))), trivial⟩ ⟨(by (first | (refine .of_eq ?_; rw [un_rows, e]; done) | (have h1 := of_decide_eq_false h28; have h2 := of_decide_eq_false h34; refine .of_eq ?_; rw [u8s_getD (by omega), hn]))), le_bool h24, trivial⟩ (by first | (have q := e2 9 (by unfold spoilE; rw [if_pos h24]) (by decide); exact ⟨by rw [q], by rw [un_rows, q]; rfl⟩) | (have h1 := of_decide_eq_true h28; have q := e2 5 (by unfold spoilE; rw [h24, if_neg (by decide), if_pos (.inl h1)]) (by decide); exact ⟨by rw [q], by rw [un_rows, q]; rfl⟩) | (have h2 := of_decide_eq_true h34; have q := e2 5 (by unfold spoilE; rw [h24, if_neg (by decide), if_pos (.inr h2)]) (by decide); exact ⟨by rw [q], by rw [un_rows, q]; rfl⟩) | (have h1 := of_decide_eq_false h28; have h2 := of_decide_eq_false h34; have h3 := eq_of_beq h37; have q := e2 2 (by unfold spoilE; rw [h24, if_neg (by decide), if_neg (by omega), if_pos h3]) (by decide); exact ⟨by rw [q], by rw [un_rows, q]; rfl⟩) | (have h1 := of_decide_eq_false h28; have h2 := of_decide_eq_false h34; have q := e3 (by unfold spoilE; rw [h24, if_neg (by decide), if_neg (by omega), if_neg (by simpa using h37)]); exact ⟨by rw [q], by rw [q]; simp only [netO]; rw [← hm]⟩))
    · skip
      rcases Bool.eq_false_or_eq_true (decide (a < 0) : Bool) with h28 | h28
      · skip
        exact WK.fin ok 1000 0 [(15, RV.tup [RV.d (DV.agg [DV.int Go.IntKind.i64 x.1, DV.int Go.IntKind.i64 x.2, DV.int Go.IntKind.i64 x.3, DV.str x.4, DV.bool x.5]), RV.d (DV.int Go.IntKind.i64 (0))]), (44, RV.d (DV.int Go.IntKind.u8 n)), (24, RV.d (DV.bool false)), (28, RV.d (DV.bool true))] [isRows (rows L) last] [(RV.tup [RV.d (DV.agg [DV.int Go.IntKind.i64 (findN id (unrows (rows L))).fst.1, DV.int Go.IntKind.i64 (findN id (unrows (rows L))).fst.2, DV.int Go.IntKind.i64 (findN id (unrows (rows L))).fst.3, DV.str (findN id (unrows (rows L))).fst.4, DV.bool (findN id (unrows (rows L))).fst.5]), RV.d (DV.int Go.IntKind.i64 (findN id (unrows (rows L))).2)], RV.tup [RV.d (DV.agg [DV.int Go.IntKind.i64 x.1, DV.int Go.IntKind.i64 x.2, DV.int Go.IntKind.i64 x.3, DV.str x.4, DV.bool x.5]), RV.d (DV.int Go.IntKind.i64 (0))]), (RV.d (DV.bool x.5), RV.d (DV.bool false)), (RV.d (DV.bool (decide (a < 0))), RV.d (DV.bool true))] rfl (by kernel_rfl : runEnd (cfT tv1) true _ 1000 0 _ _ (ini Try.f42.ntmps [.ptr 0 0, .d (.int .i64 id), .d (.int .i64 a), .d (.int .u8 y)] (netO L last)) = some (RV.d (DV.int Go.IntKind.i64 (5)), [PObj.box 115 [RV.map 1, RV.d (DV.int Go.IntKind.i64 last)], PObj.map (rows (unrows (rows L)))], _, _)) ⟨(by (first | exact isRows_of h | exact keys_rows' L | exact all_byte _ _ _ | (have h1 := of_decide_eq_false h28; have h2 := of_decide_eq_false h34; first | (exact decide_eq_true (by rw [u8s_len]; omega)) | (rw [u8s_getD (by omega)]; rfl)))), trivial⟩ ⟨(by (first | (refine .of_eq ?_; rw [un_rows, e]; done) | (have h1 := of_decide_eq_false h28; have h2 := of_decide_eq_false h34; refine .of_eq ?_; rw [u8s_getD (by omega), hn]))), le_bool h24, le_bool h28, trivial⟩ (by first | (have q := e2 9 (by unfold spoilE; rw [if_pos h24]) (by decide); exact ⟨by rw [q], by rw [un_rows, q]; rfl⟩) | (have h1 := of_decide_eq_true h28; have q := e2 5 (by unfold spoilE; rw [h24, if_neg (by decide), if_pos (.inl h1)]) (by decide); exact ⟨by rw [q], by rw [un_rows, q]; rfl⟩) | (have h2 := of_decide_eq_true h34; have q := e2 5 (by unfold spoilE; rw [h24, if_neg (by decide), if_pos (.inr h2)]) (by decide); exact ⟨by rw [q], by rw [un_rows, q]; rfl⟩) | (have h1 := of_decide_eq_false h28; have h2 := of_decide_eq_false h34; have h3 := eq_of_beq h37; have q := e2 2 (by unfold spoilE; rw [h24, if_neg (by decide), if_neg (by omega), if_pos h3]) (by decide); exact ⟨by rw [q], by rw [un_rows, q]; rfl⟩) | (have h1 := of_decide_eq_false h28; have h2 := of_decide_eq_false h34; have q := e3 (by unfold spoilE; rw [h24, if_neg (by decide), if_neg (by omega), if_neg (by simpa using h37)]); exact ⟨by rw [q], by rw [q]; simp only [netO]; rw [← hm]⟩))
      · skip
        rcases Bool.eq_false_or_eq_true (decide ((Nat.cast (R := Int) x.bs.length) ≤ a) : Bool) with h34 | h34
        · skip
          exact WK.fin ok 1000 0 [(15, RV.tup [RV.d (DV.agg [DV.int Go.IntKind.i64 x.1, DV.int Go.IntKind.i64 x.2, DV.int Go.IntKind.i64 x.3, DV.str x.4, DV.bool x.5]), RV.d (DV.int Go.IntKind.i64 (0))]), (44, RV.d (DV.int Go.IntKind.u8 n)), (24, RV.d (DV.bool false)), (28, RV.d (DV.bool false)), (34, RV.d (DV.bool true))] [isRows (rows L) last] [(RV.tup [RV.d (DV.agg [DV.int Go.IntKind.i64 (findN id (unrows (rows L))).fst.1, DV.int Go.IntKind.i64 (findN id (unrows (rows L))).fst.2, DV.int Go.IntKind.i64 (findN id (unrows (rows L))).fst.3, DV.str (findN id (unrows (rows L))).fst.4, DV.bool (findN id (unrows (rows L))).fst.5]), RV.d (DV.int Go.IntKind.i64 (findN id (unrows (rows L))).2)], RV.tup [RV.d (DV.agg [DV.int Go.IntKind.i64 x.1, DV.int Go.IntKind.i64 x.2, DV.int Go.IntKind.i64 x.3, DV.str x.4, DV.bool x.5]), RV.d (DV.int Go.IntKind.i64 (0))]), (RV.d (DV.bool x.5), RV.d (DV.bool false)), (RV.d (DV.bool (decide (a < 0))), RV.d (DV.bool false)), (RV.d (DV.bool (decide ((Nat.cast (R := Int) x.bs.length) ≤ a))), RV.d (DV.bool true))] rfl (by kernel_rfl : runEnd (cfT tv1) true _ 1000 0 _ _ (ini Try.f42.ntmps [.ptr 0 0, .d (.int .i64 id), .d (.int .i64 a), .d (.int .u8 y)] (netO L last)) = some (RV.d (DV.int Go.IntKind.i64 (5)), [PObj.box 115 [RV.map 1, RV.d (DV.int Go.IntKind.i64 last)], PObj.map (rows (unrows (rows L)))], _, _)) ⟨(by (first | exact isRows_of h | exact keys_rows' L | exact all_byte _ _ _ | (have h1 := of_decide_eq_false h28; have h2 := of_decide_eq_false h34; first | (exact decide_eq_true (by rw [u8s_len]; omega)) | (rw [u8s_getD (by omega)]; rfl)))), trivial⟩ ⟨(by (first | (refine .of_eq ?_; rw [un_rows, e]; done) | (have h1 := of_decide_eq_false h28; have h2 := of_decide_eq_false h34; refine .of_eq ?_; rw [u8s_getD (by omega), hn]))), le_bool h24, le_bool h28, le_bool h34, trivial⟩ (by first | (have q := e2 9 (by unfold spoilE; rw [if_pos h24]) (by decide); exact ⟨by rw [q], by rw [un_rows, q]; rfl⟩) | (have h1 := of_decide_eq_true h28; have q := e2 5 (by unfold spoilE; rw [h24, if_neg (by decide), if_pos (.inl h1)]) (by decide); exact ⟨by rw [q], by rw [un_rows, q]; rfl⟩) | (have h2 := of_decide_eq_true h34; have q := e2 5 (by unfold spoilE; rw [h24, if_neg (by decide), if_pos (.inr h2)]) (by decide); exact ⟨by rw [q], by rw [un_rows, q]; rfl⟩) | (have h1 := of_decide_eq_false h28; have h2 := of_decide_eq_false h34; have h3 := eq_of_beq h37; have q := e2 2 (by unfold spoilE; rw [h24, if_neg (by decide), if_neg (by omega), if_pos h3]) (by decide); exact ⟨by rw [q], by rw [un_rows, q]; rfl⟩) | (have h1 := of_decide_eq_false h28; have h2 := of_decide_eq_false h34; have q := e3 (by unfold spoilE; rw [h24, if_neg (by decide), if_neg (by omega), if_neg (by simpa using h37)]); exact ⟨by rw [q], by rw [q]; simp only [netO]; rw [← hm]⟩))
        · skip
          rcases Bool.eq_false_or_eq_true (y == 0 : Bool) with h37 | h37
          · skip
            exact WK.fin ok 1000 0 [(15, RV.tup [RV.d (DV.agg [DV.int Go.IntKind.i64 x.1, DV.int Go.IntKind.i64 x.2, DV.int Go.IntKind.i64 x.3, DV.str x.4, DV.bool x.5]), RV.d (DV.int Go.IntKind.i64 (0))]), (44, RV.d (DV.int Go.IntKind.u8 n)), (24, RV.d (DV.bool false)), (28, RV.d (DV.bool false)), (34, RV.d (DV.bool false)), (37, RV.d (DV.bool true))] [isRows (rows L) last] [(RV.tup [RV.d (DV.agg [DV.int Go.IntKind.i64 (findN id (unrows (rows L))).fst.1, DV.int Go.IntKind.i64 (findN id (unrows (rows L))).fst.2, DV.int Go.IntKind.i64 (findN id (unrows (rows L))).fst.3, DV.str (findN id (unrows (rows L))).fst.4, DV.bool (findN id (unrows (rows L))).fst.5]), RV.d (DV.int Go.IntKind.i64 (findN id (unrows (rows L))).2)], RV.tup [RV.d (DV.agg [DV.int Go.IntKind.i64 x.1, DV.int Go.IntKind.i64 x.2, DV.int Go.IntKind.i64 x.3, DV.str x.4, DV.bool x.5]), RV.d (DV.int Go.IntKind.i64 (0))]), (RV.d (DV.bool x.5), RV.d (DV.bool false)), (RV.d (DV.bool (decide (a < 0))), RV.d (DV.bool false)), (RV.d (DV.bool (decide ((Nat.cast (R := Int) x.bs.length) ≤ a))), RV.d (DV.bool false)), (RV.d (DV.bool (y == 0)), RV.d (DV.bool true))] rfl (by kernel_rfl : runEnd (cfT tv1) true _ 1000 0 _ _ (ini Try.f42.ntmps [.ptr 0 0, .d (.int .i64 id), .d (.int .i64 a), .d (.int .u8 y)] (netO L last)) = some (RV.d (DV.int Go.IntKind.i64 (2)), [PObj.box 115 [RV.map 1, RV.d (DV.int Go.IntKind.i64 last)], PObj.map (rows (unrows (rows L)))], _, _)) ⟨(by (first | exact isRows_of h | exact keys_rows' L | exact all_byte _ _ _ | (have h1 := of_decide_eq_false h28; have h2 := of_decide_eq_false h34; first | (exact decide_eq_true (by rw [u8s_len]; omega)) | (rw [u8s_getD (by omega)]; rfl)))), trivial⟩ ⟨(by (first | (refine .of_eq ?_; rw [un_rows, e]; done) | (have h1 := of_decide_eq_false h28; have h2 := of_decide_eq_false h34; refine .of_eq ?_; rw [u8s_getD (by omega), hn]))), le_bool h24, le_bool h28, le_bool h34, le_bool h37, trivial⟩ (by first | (have q := e2 9 (by unfold spoilE; rw [if_pos h24]) (by decide); exact ⟨by rw [q], by rw [un_rows, q]; rfl⟩) | (have h1 := of_decide_eq_true h28; have q := e2 5 (by unfold spoilE; rw [h24, if_neg (by decide), if_pos (.inl h1)]) (by decide); exact ⟨by rw [q], by rw [un_rows, q]; rfl⟩) | (have h2 := of_decide_eq_true h34; have q := e2 5 (by unfold spoilE; rw [h24, if_neg (by decide), if_pos (.inr h2)]) (by decide); exact ⟨by rw [q], by rw [un_rows, q]; rfl⟩) | (have h1 := of_decide_eq_false h28; have h2 := of_decide_eq_false h34; have h3 := eq_of_beq h37; have q := e2 2 (by unfold spoilE; rw [h24, if_neg (by decide), if_neg (by omega), if_pos h3]) (by decide); exact ⟨by rw [q], by rw [un_rows, q]; rfl⟩) | (have h1 := of_decide_eq_false h28; have h2 := of_decide_eq_false h34; have q := e3 (by unfold spoilE; rw [h24, if_neg (by decide), if_neg (by omega), if_neg (by simpa using h37)]); exact ⟨by rw [q], by rw [q]; simp only [netO]; rw [← hm]⟩))
          · skip
            exact WK.fin ok 1000 0 [(15, RV.tup [RV.d (DV.agg [DV.int Go.IntKind.i64 x.1, DV.int Go.IntKind.i64 x.2, DV.int Go.IntKind.i64 x.3, DV.str x.4, DV.bool x.5]), RV.d (DV.int Go.IntKind.i64 (0))]), (44, RV.d (DV.int Go.IntKind.u8 n)), (24, RV.d (DV.bool false)), (28, RV.d (DV.bool false)), (34, RV.d (DV.bool false)), (37, RV.d (DV.bool false))] [isRows (rows L) last, decide (0 ≤ a ∧ a < (Nat.cast (R := Int) (u8s x.bs).length)), decide (a.toNat < (u8s x.bs).length), ((u8s x.bs).getD a.toNat DV.nilp).scal, decide (0 ≤ a ∧ a < (Nat.cast (R := Int) (u8s x.bs).length)), decide (a.toNat < (u8s x.bs).length), ((List.map (fun b => DV.int Go.IntKind.u8 (Nat.cast (R := Int) b.toNat)) x.4).set a.toNat (DV.int Go.IntKind.u8 (bits Go.BinOp.xor Go.IntKind.u8 n y))).all DV.isByte, (rows (unrows (rows L))).all fun p => keyOk ((cfT tv1).E.und (3)) p.fst] [(RV.tup [RV.d (DV.agg [DV.int Go.IntKind.i64 (findN id (unrows (rows L))).fst.1, DV.int Go.IntKind.i64 (findN id (unrows (rows L))).fst.2, DV.int Go.IntKind.i64 (findN id (unrows (rows L))).fst.3, DV.str (findN id (unrows (rows L))).fst.4, DV.bool (findN id (unrows (rows L))).fst.5]), RV.d (DV.int Go.IntKind.i64 (findN id (unrows (rows L))).2)], RV.tup [RV.d (DV.agg [DV.int Go.IntKind.i64 x.1, DV.int Go.IntKind.i64 x.2, DV.int Go.IntKind.i64 x.3, DV.str x.4, DV.bool x.5]), RV.d (DV.int Go.IntKind.i64 (0))]), (RV.d (DV.bool x.5), RV.d (DV.bool false)), (RV.d (DV.bool (decide (a < 0))), RV.d (DV.bool false)), (RV.d (DV.bool (decide ((Nat.cast (R := Int) x.bs.length) ≤ a))), RV.d (DV.bool false)), (RV.d (DV.bool (y == 0)), RV.d (DV.bool false)), (RV.d ((u8s x.bs).getD a.toNat DV.nilp), RV.d (DV.int Go.IntKind.u8 n))] rfl (by kernel_rfl : runEnd (cfT tv1) true _ 1000 0 _ _ (ini Try.f42.ntmps [.ptr 0 0, .d (.int .i64 id), .d (.int .i64 a), .d (.int .u8 y)] (netO L last)) = some (RV.d (DV.int Go.IntKind.i64 (0)), [PObj.box 115 [RV.map 1, RV.d (DV.int Go.IntKind.i64 last)], PObj.map (mput (DV.int Go.IntKind.i64 id) (DV.agg [DV.int Go.IntKind.i64 x.id, DV.int Go.IntKind.i64 x.frm, DV.int Go.IntKind.i64 x.dst, DV.str (List.map DV.byte ((u8s x.bs).set a.toNat (DV.int Go.IntKind.u8 (bits Go.BinOp.xor Go.IntKind.u8 n y)))), DV.bool true]) (rows (unrows (rows L))))], _, _)) (by refine ⟨?_, ?_, ?_, ?_, ?_, ?_, ?_, ?_, trivial⟩ <;> ((first | exact isRows_of h | exact keys_rows' L | exact all_byte _ _ _ | (have h1 := of_decide_eq_false h28; have h2 := of_decide_eq_false h34; first | (exact decide_eq_true (by rw [u8s_len]; omega)) | (rw [u8s_getD (by omega)]; rfl))))) (by refine ⟨?_, le_bool h24, le_bool h28, le_bool h34, le_bool h37, ?_, trivial⟩ <;> ((first | (refine .of_eq ?_; rw [un_rows, e]; done) | (have h1 := of_decide_eq_false h28; have h2 := of_decide_eq_false h34; refine .of_eq ?_; rw [u8s_getD (by omega), hn])))) (by first | (have q := e2 9 (by unfold spoilE; rw [if_pos h24]) (by decide); exact ⟨by rw [q], by rw [un_rows, q]; rfl⟩) | (have h1 := of_decide_eq_true h28; have q := e2 5 (by unfold spoilE; rw [h24, if_neg (by decide), if_pos (.inl h1)]) (by decide); exact ⟨by rw [q], by rw [un_rows, q]; rfl⟩) | (have h2 := of_decide_eq_true h34; have q := e2 5 (by unfold spoilE; rw [h24, if_neg (by decide), if_pos (.inr h2)]) (by decide); exact ⟨by rw [q], by rw [un_rows, q]; rfl⟩) | (have h1 := of_decide_eq_false h28; have h2 := of_decide_eq_false h34; have h3 := eq_of_beq h37; have q := e2 2 (by unfold spoilE; rw [h24, if_neg (by decide), if_neg (by omega), if_pos h3]) (by decide); exact ⟨by rw [q], by rw [un_rows, q]; rfl⟩) | (have h1 := of_decide_eq_false h28; have h2 := of_decide_eq_false h34; have q := e3 (by unfold spoilE; rw [h24, if_neg (by decide), if_neg (by omega), if_neg (by simpa using h37)]); exact ⟨by rw [q], by rw [q]; simp only [netO]; rw [← hm]⟩))
  | none =>
    have e : findN id L = (zL, 4) := by unfold findN; rw [hf]
    have e2 : spoilN id a y L = (4, L) := by unfold spoilN; rw [hf]
    exact WK.fin ok 1000 0 [(15, RV.tup [RV.d (DV.agg [DV.int Go.IntKind.i64 (0), DV.int Go.IntKind.i64 (0), DV.int Go.IntKind.i64 (0), DV.str [], DV.bool false]), RV.d (DV.int Go.IntKind.i64 (4))])] [isRows (rows L) last] [(RV.tup [RV.d (DV.agg [DV.int Go.IntKind.i64 (findN id (unrows (rows L))).fst.1, DV.int Go.IntKind.i64 (findN id (unrows (rows L))).fst.2, DV.int Go.IntKind.i64 (findN id (unrows (rows L))).fst.3, DV.str (findN id (unrows (rows L))).fst.4, DV.bool (findN id (unrows (rows L))).fst.5]), RV.d (DV.int Go.IntKind.i64 (findN id (unrows (rows L))).2)], RV.tup [RV.d (DV.agg [DV.int Go.IntKind.i64 (0), DV.int Go.IntKind.i64 (0), DV.int Go.IntKind.i64 (0), DV.str [], DV.bool false]), RV.d (DV.int Go.IntKind.i64 (4))])] rfl (by kernel_rfl : runEnd (cfT tv1) true _ 1000 0 _ _ (ini Try.f42.ntmps [.ptr 0 0, .d (.int .i64 id), .d (.int .i64 a), .d (.int .u8 y)] (netO L last)) = some (RV.d (DV.int Go.IntKind.i64 (4)), [PObj.box 115 [RV.map 1, RV.d (DV.int Go.IntKind.i64 last)], PObj.map (rows (unrows (rows L)))], _, _)) ⟨(by exact isRows_of h), trivial⟩ ⟨(by (refine .of_eq ?_; rw [un_rows, e]; rfl)), trivial⟩ ⟨by rw [e2], by rw [un_rows, e2]; rfl⟩
def spoilEn : Ent := fun p o => match p, o with
  | [.ptr 0 0, .d (.int .i64 id), .d (.int .i64 a), .d (.int .u8 y)], [.box 115 [.map 1, .d (.int .i64 last)], .map es] =>
    some (.d (.int .i64 (spoilN id a y (unrows es)).1), netO (spoilN id a y (unrows es)).2 last, [isRows es last])
  | _, _ => none
theorem spoil_ent : EntOk Try.prog 42 spoilEn := by
  intro p o r o' c hg hc
  unfold spoilEn at hg
  split at hg
  · rename_i id a y last es
    simp only [Option.some.injEq, Prod.mk.injEq] at hg
    obtain ⟨rfl, rfl, rfl⟩ := hg
    obtain ⟨h2, h3⟩ := isRows_un (hc (isRows es last) (by simp))
    have := spoil_c id a y (unrows es) last h3
    unfold netO at this
    rw [← h2] at this
    exact this
  · cases hg
noncomputable def tv2 : List (Nat × Ent) := (42, spoilEn) :: (41, twiceEn) :: (39, delEn) :: (38, sendEn) :: tv1
theorem tv2_ok : EntsOk Try.prog tv2 := .cons spoil_ent (.cons twice_ent (.cons del_ent (.cons send_ent tv1_ok)))
end Go.Proofs.Ytchmeldlpoimnaa
