/-
  Letters: the small methods of net.Net.
-/
import Derived.Test.YtchmeldlpoimnaaAmV1
namespace Go.Proofs.Ytchmeldlpoimnaa
open Go.RowKit Am IntWalk
set_option maxRecDepth 100000
set_option linter.unusedVariables false
set_option linter.unusedSimpArgs false

def netO (L : List Ltr) (last : Int) : List PObj := [.box 115 [.map 1, .d (.int .i64 last)], .map (rows L)]
theorem undI : (Env.of Try.prog).und 3 = some (.int .i64) := by kernel_rfl
theorem keys_rows (L : List Ltr) : keysOk ((Env.of Try.prog).und 3) (rows L) = true := by
  rw [undI]
  simp only [keysOk, List.all_eq_true]
  intro p hp
  simp only [rows, List.mem_map] at hp
  obtain ⟨l, _, rfl⟩ := hp
  rfl

def isG : DV → Option (DV × List Bool)
  | .int .i64 n => some (.bool (isN n), [])
  | _ => none
theorem is_c (n : Int) : C Try.prog 78 [.d (.int .i64 n)] [] (fun r o => r = .d (.bool (isN n)) ∧ o = []) := by
  have ok := cfT_ok (l := []) .nil
  refine C_of_run (fn := Try.f78) (body := (Try.f78.body).getD .skip) true (by kernel_rfl) (by kernel_rfl) (by kernel_rfl) ?_
  rcases Bool.eq_false_or_eq_true (decide (0 ≤ n) : Bool) with h5 | h5
  · skip
    exact WK.fin ok 1000 0 [(5, RV.d (DV.bool true))] [] [(RV.d (DV.bool (decide (0 ≤ n))), RV.d (DV.bool true))] rfl (by kernel_rfl : runEnd (cfT []) true _ 1000 0 _ _ (ini 9 [.d (.int .i64 n)] []) = some (RV.d (DV.bool (decide (n < 4))), [], _, _)) trivial ⟨le_bool h5, trivial⟩ ⟨by simp [isN] at h5 ⊢; omega, rfl⟩
  · skip
    exact WK.fin ok 1000 0 [(5, RV.d (DV.bool false))] [] [(RV.d (DV.bool (decide (0 ≤ n))), RV.d (DV.bool false))] rfl (by kernel_rfl : runEnd (cfT []) true _ 1000 0 _ _ (ini 9 [.d (.int .i64 n)] []) = some (RV.d (DV.bool false), [], _, _)) trivial ⟨le_bool h5, trivial⟩ ⟨by simp [isN] at h5 ⊢; omega, rfl⟩
theorem is_ent : EntOk Try.prog 78 (e1 isG) := by
  refine ent1 fun x y c hg hc => ?_
  unfold isG at hg
  split at hg
  · simp only [Option.some.injEq, Prod.mk.injEq] at hg
    obtain ⟨rfl, rfl⟩ := hg
    exact is_c _
  · cases hg

theorem add_full {x : Ltr} {L : List Ltr} {last : Int} (h : ((Nat.cast (R := Int) (List.length (rows L))) == 64) = true) : addN x L last = (0, 8, L, last) := by
  have e : (rows L).length = L.length := List.length_map ..
  rw [e] at h
  simp at h
  unfold addN; rw [if_pos (by omega)]
theorem add_room {x : Ltr} {L : List Ltr} {last : Int} (h : ((Nat.cast (R := Int) (List.length (rows L))) == 64) = false) : addN x L last = (last + 1, 0, L ++ [⟨last + 1, x.frm, x.dst, x.bs, x.sp⟩], last + 1) := by
  have e : (rows L).length = L.length := List.length_map ..
  rw [e] at h
  simp at h
  unfold addN; rw [if_neg (by omega)]
theorem add_c (x : Ltr) (L : List Ltr) (last : Int) (h : NetOk L last) (hl : last < 1000000) : C Try.prog 79 [.ptr 0 0, .d (lD x)] (netO L last)
    (fun r o => r = .tup [.d (.int .i64 (addN x L last).1), .d (.int .i64 (addN x L last).2.1)] ∧ o = netO (addN x L last).2.2.1 (addN x L last).2.2.2) := by
  have ok := cfT_ok (l := []) .nil
  have hw : IntKind.i64.wrap (last + 1) = last + 1 := i64_in _ (by have := h.lo; omega)
  refine C_of_run (fn := Try.f79) (body := (Try.f79.body).getD .skip) true (by kernel_rfl) (by kernel_rfl) (by kernel_rfl) ?_
  have hn := mput_new ⟨last + 1, x.frm, x.dst, x.bs, x.sp⟩ L h.new
  rcases Bool.eq_false_or_eq_true ((Nat.cast (R := Int) (rows L).length) == 64 : Bool) with h11 | h11
  · skip
    exact WK.fin ok 1000 0 [(11, RV.d (DV.bool true))] [] [(RV.d (DV.bool ((Nat.cast (R := Int) (rows L).length) == 64)), RV.d (DV.bool true))] rfl (by kernel_rfl : runEnd (cfT []) true _ 1000 0 _ _ (ini 33 [.ptr 0 0, .d (lD x)] (netO L last)) = some (RV.tup [RV.d (DV.int Go.IntKind.i64 (0)), RV.d (DV.int Go.IntKind.i64 (8))], [PObj.box 115 [RV.map 1, RV.d (DV.int Go.IntKind.i64 last)], PObj.map (rows L)], _, _)) trivial ⟨le_bool h11, trivial⟩ (by first | (exact ⟨by rw [add_full h11], by rw [add_full h11]; rfl⟩) | (exact ⟨by rw [add_room h11, hw], by rw [add_room h11, hw]; simp only [netO]; rw [← hn]; rfl⟩))
  · skip
    exact WK.fin ok 1000 0 [(11, RV.d (DV.bool false))] [(rows L).all fun p => keyOk ((cfT []).E.und (3)) p.fst] [(RV.d (DV.bool ((Nat.cast (R := Int) (rows L).length) == 64)), RV.d (DV.bool false))] rfl (by kernel_rfl : runEnd (cfT []) true _ 1000 0 _ _ (ini 33 [.ptr 0 0, .d (lD x)] (netO L last)) = some (RV.tup [RV.d (DV.int Go.IntKind.i64 (Go.IntKind.i64.wrap (last + 1))), RV.d (DV.int Go.IntKind.i64 (0))], [PObj.box 115 [RV.map 1, RV.d (DV.int Go.IntKind.i64 (Go.IntKind.i64.wrap (last + 1)))], PObj.map (mput (DV.int Go.IntKind.i64 (Go.IntKind.i64.wrap (last + 1))) (DV.agg [DV.int Go.IntKind.i64 (Go.IntKind.i64.wrap (last + 1)), DV.int Go.IntKind.i64 x.frm, DV.int Go.IntKind.i64 x.dst, DV.str x.bs, DV.bool x.sp]) (rows L))], _, _)) ⟨(by exact keys_rows L), trivial⟩ ⟨le_bool h11, trivial⟩ (by first | (exact ⟨by rw [add_full h11], by rw [add_full h11]; rfl⟩) | (exact ⟨by rw [add_room h11, hw], by rw [add_room h11, hw]; simp only [netO]; rw [← hn]; rfl⟩))
def addEn : Ent := fun a o => match a, o with
  | [.ptr 0 0, .d x], [.box 115 [.map 1, .d (.int .i64 last)], .map es] =>
    some (.tup [.d (.int .i64 (addN (toL x) (unrows es) last).1), .d (.int .i64 (addN (toL x) (unrows es) last).2.1)], netO (addN (toL x) (unrows es) last).2.2.1 (addN (toL x) (unrows es) last).2.2.2, [isL x, isRows es last, decide (last < 1000000)])
  | _, _ => none
theorem add_ent : EntOk Try.prog 79 addEn := by
  intro a o r o' c hg hc
  unfold addEn at hg
  split at hg
  · rename_i x last es
    simp only [Option.some.injEq, Prod.mk.injEq] at hg
    obtain ⟨rfl, rfl, rfl⟩ := hg
    have h1 : isL x = true := hc _ (by simp)
    obtain ⟨h2, h3⟩ := isRows_un (hc (isRows es last) (by simp))
    have h4 : last < 1000000 := of_decide_eq_true (hc _ (by simp))
    have := add_c (toL x) (unrows es) last h3 h4
    unfold netO at this
    rw [← isL_spec h1, ← h2] at this
    exact this
  · cases hg
noncomputable def tv0 : List (Nat × Ent) := [(79, addEn), (78, e1 isG)]
theorem tv0_ok : EntsOk Try.prog tv0 := .cons add_ent (.cons is_ent .nil)

theorem find_c (id : Int) (L : List Ltr) (last : Int) : C Try.prog 80 [.ptr 0 0, .d (.int .i64 id)] (netO L last)
    (fun r o => r = .tup [.d (lD (findN id L).1), .d (.int .i64 (findN id L).2)] ∧ o = netO L last) := by
  have ok := cfT_ok (l := []) .nil
  refine C_of_run (fn := Try.f80) (body := (Try.f80.body).getD .skip) true (by kernel_rfl) (by kernel_rfl) (by kernel_rfl) ?_
  have hr : ∀ z : DV, RV.d (.tup [mget (.int .i64 id) (lD zL) (rows L), .bool (mhas (.int .i64 id) (rows L))]) = RV.d (.tup [match fnd id L with | some l => lD l | none => lD zL, .bool (fnd id L).isSome]) := fun _ => by rw [mget_rows, mhas_rows]; rfl
  cases hf : fnd id L with
  | some x =>
    exact WK.fin ok 1000 0 [(17, RV.d (DV.tup [DV.agg [DV.int Go.IntKind.i64 x.1, DV.int Go.IntKind.i64 x.2, DV.int Go.IntKind.i64 x.3, DV.str x.4, DV.bool x.5], DV.bool true]))] [(rows L).all fun p => keyOk ((cfT []).E.und (3)) p.fst] [(RV.d (DV.tup [mget (DV.int Go.IntKind.i64 id) (DV.agg [DV.int Go.IntKind.i64 (0), DV.int Go.IntKind.i64 (0), DV.int Go.IntKind.i64 (0), DV.str ([] : List UInt8), DV.bool false]) (rows L), DV.bool ((rows L).any fun p => keq (DV.int Go.IntKind.i64 id) p.fst)]), RV.d (DV.tup [DV.agg [DV.int Go.IntKind.i64 x.1, DV.int Go.IntKind.i64 x.2, DV.int Go.IntKind.i64 x.3, DV.str x.4, DV.bool x.5], DV.bool true]))] rfl (by kernel_rfl : runEnd (cfT []) true _ 1000 0 _ _ (ini 24 [.ptr 0 0, .d (.int .i64 id)] (netO L last)) = some (RV.tup [RV.d (DV.agg [DV.int Go.IntKind.i64 x.1, DV.int Go.IntKind.i64 x.2, DV.int Go.IntKind.i64 x.3, DV.str x.4, DV.bool x.5]), RV.d (DV.int Go.IntKind.i64 (0))], [PObj.box 115 [RV.map 1, RV.d (DV.int Go.IntKind.i64 last)], PObj.map (rows L)], _, _)) ⟨(by exact keys_rows L), trivial⟩ ⟨(by (refine .of_eq ((hr .nilp).trans ?_); rw [hf]; rfl)), trivial⟩ ⟨by unfold findN; rw [hf]; rfl, rfl⟩
  | none =>
    exact WK.fin ok 1000 0 [(17, RV.d (DV.tup [DV.agg [DV.int Go.IntKind.i64 (0), DV.int Go.IntKind.i64 (0), DV.int Go.IntKind.i64 (0), DV.str [], DV.bool false], DV.bool false]))] [(rows L).all fun p => keyOk ((cfT []).E.und (3)) p.fst] [(RV.d (DV.tup [mget (DV.int Go.IntKind.i64 id) (DV.agg [DV.int Go.IntKind.i64 (0), DV.int Go.IntKind.i64 (0), DV.int Go.IntKind.i64 (0), DV.str ([] : List UInt8), DV.bool false]) (rows L), DV.bool ((rows L).any fun p => keq (DV.int Go.IntKind.i64 id) p.fst)]), RV.d (DV.tup [DV.agg [DV.int Go.IntKind.i64 (0), DV.int Go.IntKind.i64 (0), DV.int Go.IntKind.i64 (0), DV.str [], DV.bool false], DV.bool false]))] rfl (by kernel_rfl : runEnd (cfT []) true _ 1000 0 _ _ (ini 24 [.ptr 0 0, .d (.int .i64 id)] (netO L last)) = some (RV.tup [RV.d (DV.agg [DV.int Go.IntKind.i64 (0), DV.int Go.IntKind.i64 (0), DV.int Go.IntKind.i64 (0), DV.str [], DV.bool false]), RV.d (DV.int Go.IntKind.i64 (4))], [PObj.box 115 [RV.map 1, RV.d (DV.int Go.IntKind.i64 last)], PObj.map (rows L)], _, _)) ⟨(by exact keys_rows L), trivial⟩ ⟨(by (refine .of_eq ((hr .nilp).trans ?_); rw [hf]; rfl)), trivial⟩ ⟨by unfold findN; rw [hf]; rfl, rfl⟩
def findEn : Ent := fun a o => match a, o with
  | [.ptr 0 0, .d (.int .i64 id)], [.box 115 [.map 1, .d (.int .i64 last)], .map es] =>
    some (.tup [.d (lD (findN id (unrows es)).1), .d (.int .i64 (findN id (unrows es)).2)], netO (unrows es) last, [isRows es last])
  | _, _ => none
theorem find_ent : EntOk Try.prog 80 findEn := by
  intro a o r o' c hg hc
  unfold findEn at hg
  split at hg
  · rename_i id last es
    simp only [Option.some.injEq, Prod.mk.injEq] at hg
    obtain ⟨rfl, rfl, rfl⟩ := hg
    obtain ⟨h2, h3⟩ := isRows_un (hc (isRows es last) (by simp))
    have := find_c id (unrows es) last
    unfold netO at this ⊢
    rw [← h2] at this ⊢
    exact this
  · cases hg
noncomputable def tv1 : List (Nat × Ent) := (80, findEn) :: tv0
theorem tv1_ok : EntsOk Try.prog tv1 := .cons find_ent tv0_ok
end Go.Proofs.Ytchmeldlpoimnaa
