/-
  Texts that the claim leans on, one behind the other, part 6.
-/
import Derived.Test.YtljfolepmkcjlaaXb5

/-
  The symmetric merge, run.
-/
namespace Go.Proofs.Ytljfolepmkcjlaa
open Go.RowKit Plain Am IntWalk
set_option maxRecDepth 100000
set_option linter.unusedVariables false
set_option linter.unusedSimpArgs false

noncomputable abbrev syC : Code := bodyOf Try.f101
def sy1 (l : List DV) (a i j : Int) : ESt := { n := 220, m := 1, regs := T.mk [(0, .own 0 4), (1, .d (.int .i64 a)), (4, cmpv), (10, .d (.int .i64 i)), (11, .d (.int .i64 j))], objs := T.mk [(0, .arr 46 4 l)] }
def sy1u (l : List DV) (e i : Int) : ESt := { n := 220, m := 1, regs := T.mk [(0, .own 0 4), (10, .d (.int .i64 e)), (13, .d (.int .i64 i))], objs := T.mk [(0, .arr 46 4 l)] }
def sy2 (l : List DV) (m i j : Int) : ESt := { n := 220, m := 1, regs := T.mk [(0, .own 0 4), (2, .d (.int .i64 m)), (4, cmpv), (14, .d (.int .i64 i)), (15, .d (.int .i64 j))], objs := T.mk [(0, .arr 46 4 l)] }
def sy2d (l : List DV) (e i : Int) : ESt := { n := 220, m := 1, regs := T.mk [(0, .own 0 4), (14, .d (.int .i64 e)), (17, .d (.int .i64 i))], objs := T.mk [(0, .arr 46 4 l)] }
def sy3 (l : List DV) (a m b mid n i j p : Int) : ESt := { n := 220, m := 1, regs := T.mk [(0, .own 0 4), (1, .d (.int .i64 a)), (2, .d (.int .i64 m)), (3, .d (.int .i64 b)), (4, cmpv), (18, .d (.int .i64 mid)), (19, .d (.int .i64 n)), (20, .d (.int .i64 i)), (21, .d (.int .i64 j)), (22, .d (.int .i64 p))], objs := T.mk [(0, .arr 46 4 l)] }
/-- two sorted parts are merged -/
def symL (els : List DV) (p m q : Nat) : List DV := els.take p ++ ((Srt.mrg cmpC ((part els p m).map toChg) ((part els m q).map toChg)).map chD ++ els.drop q)
def srtP (els : List DV) (p m : Nat) : Bool := Srt.srtB cmpC ((part els p m).map toChg)
def symE (N : Nat) : Ent := fun a o => match a, o with
  | [.own 0 4, .d (.int .i64 p), .d (.int .i64 m), .d (.int .i64 q), .clo (.func f) [] []], [.arr T 4 els] =>
    some (.tup [], [.arr T 4 (symL els p.toNat m.toNat q.toNat)], [Nat.beq T chT, Nat.beq f 39, els.all isC, decide (0 ≤ p), decide (p < m), decide (m < q), decide (q ≤ els.length), decide (els.length ≤ 65536), srtP els p.toNat m.toNat, srtP els m.toNat q.toNat, decide (q - p < N)])
  | _, _ => none
noncomputable def ts3 (N : Nat) : List (Nat × Ent) := [(39, e2 ccG), (104, roE), (101, symE N)]
abbrev EndsY (l : List DV) : SSt → Prop := EndsB (Try.f101.results.toList) l
theorem ov_half {i j k : Nat} (h : (i + j) / 2 = k) (hb : i + j ≤ 1000000) : RVle (.d (.int .i64 (IntKind.i64.wrap ((IntKind.u64.wrap (IntKind.i64.wrap ((Nat.cast (R := Int) i) + (Nat.cast (R := Int) j)))).fdiv 2)))) (.d (.int .i64 (Nat.cast (R := Int) k))) := .of_eq (by
  rw [i64_in ((Nat.cast (R := Int) i) + (Nat.cast (R := Int) j)) (by omega), IntWalk.u64_in _ (by omega), Int.fdiv_eq_ediv_of_nonneg _ (by omega), i64_in _ (by omega)]
  congr 2; omega)
theorem ov_dec {i k : Nat} (h : k + 1 = i) (hb : i ≤ 1000000) : RVle (.d (.int .i64 (IntKind.i64.wrap ((Nat.cast (R := Int) i) - 1)))) (.d (.int .i64 (Nat.cast (R := Int) k))) := .of_eq (by
  rw [i64_in _ (by omega)]; congr 2; omega)
theorem ov_sub {i j k : Nat} (h : k + j = i) (hb : i ≤ 1000000) : RVle (.d (.int .i64 (IntKind.i64.wrap ((Nat.cast (R := Int) i) - (Nat.cast (R := Int) j))))) (.d (.int .i64 (Nat.cast (R := Int) k))) := .of_eq (by
  rw [i64_in _ (by omega)]; congr 2; omega)
theorem ov_add {i j k : Nat} (h : i + j = k) (hb : k ≤ 1000000) : RVle (.d (.int .i64 (IntKind.i64.wrap ((Nat.cast (R := Int) i) + (Nat.cast (R := Int) j))))) (.d (.int .i64 (Nat.cast (R := Int) k))) := .of_eq (by
  rw [i64_in _ (by omega)]; congr 2; omega)
theorem ov_is1 {i j : Nat} {b : Bool} (h : decide (i = j + 1) = b) (hb : i ≤ 1000000) (hj : j ≤ i) : RVle (.d (.bool (IntKind.i64.wrap ((Nat.cast (R := Int) i) - (Nat.cast (R := Int) j)) == 1))) (.d (.bool b)) := by
  refine le_bool ?_
  rw [i64_in _ (by omega), ← h, Bool.eq_iff_iff, beq_iff_eq, decide_eq_true_iff]; omega
theorem get_in {α : Type} (A X R : List α) {k : Nat} (h1 : A.length ≤ k) (h2 : k < A.length + X.length) : (A ++ (X ++ R))[k]? = X[k - A.length]? := by
  rw [List.getElem?_append_right h1, List.getElem?_append_left (by omega)]
theorem symL_eq (A U V R : List Chg) {p m q : Nat} (hp : p = A.length) (hm : m = p + U.length) (hq : q = m + V.length) : symL ((A ++ (U ++ (V ++ R))).map chD) p m q = (A ++ (Srt.mrg cmpC U V ++ R)).map chD := by
  unfold symL
  have h1 : part (A ++ (U ++ (V ++ R))) p m = U := part_eq A U _ p m hp (by omega)
  have h2 : part (A ++ (U ++ (V ++ R))) m q = V := by
    rw [← List.append_assoc]; exact part_eq (A ++ U) V _ _ _ (by simp; omega) (by simp; omega)
  have h3 : (A ++ (U ++ (V ++ R))).drop q = R := by
    rw [← List.append_assoc, ← List.append_assoc]; exact List.drop_left' (by simp; omega)
  rw [part_map, part_map, unL_map, unL_map, h1, h2, ← List.map_take, ← List.map_drop, h3, List.take_left' hp.symm, List.map_append, List.map_append]
theorem srtP_eq (A U R : List Chg) {p m : Nat} (hp : p = A.length) (hm : m = p + U.length) : srtP ((A ++ (U ++ R)).map chD) p m = Srt.srtB cmpC U := by
  unfold srtP
  rw [part_map, unL_map, part_eq A U R p m hp (by omega)]
theorem rotL_eq (A X1 X2 Y1 R : List Chg) {i m e : Nat} (hi : i = A.length + X1.length) (hm : m = i + X2.length) (he : e = m + Y1.length) :
    rotL ((A ++ (X1 ++ (X2 ++ (Y1 ++ R)))).map chD) i m e = (A ++ (X1 ++ (Y1 ++ (X2 ++ R)))).map chD := by
  rw [rotL_map]
  congr 1
  unfold rotL
  have e0 : A ++ (X1 ++ (X2 ++ (Y1 ++ R))) = (A ++ X1) ++ (X2 ++ (Y1 ++ R)) := by simp
  have h1 : part ((A ++ X1) ++ (X2 ++ (Y1 ++ R))) i m = X2 := part_eq _ X2 _ i m (by simp; omega) (by simp; omega)
  have h2 : part ((A ++ X1) ++ (X2 ++ (Y1 ++ R))) m e = Y1 := by
    rw [← List.append_assoc]; exact part_eq (A ++ X1 ++ X2) Y1 _ _ _ (by simp; omega) (by simp; omega)
  have h3 : ((A ++ X1) ++ (X2 ++ (Y1 ++ R))).drop e = R := by
    rw [← List.append_assoc, ← List.append_assoc]; exact List.drop_left' (by simp; omega)
  rw [e0, h1, h2, h3, List.take_left' (by simp; omega)]
  simp only [List.append_assoc]
theorem okL_perm {a b : List Chg} (h : okL a) (hp : b.Perm a) : okL b := ⟨by rw [hp.length_eq]; exact h.1, fun c hc => h.2 c (hp.mem_iff.1 hc)⟩

/-- the first is moved behind t others -/
theorem sy_up {N : Nat} (hent : EntsOk Try.prog (ts3 N)) (A : List Chg) (x : Chg) (Z : List Chg) (t : Nat) (ht : t ≤ Z.length) (hok : okL (A ++ x :: Z)) :
    WK Try.prog 1 (stackAt syC 1) (sy1u ((A ++ x :: Z).map chD) ((A.length + 1 + t : Nat) : Int) (A.length : Int)).den (EndsY ((A ++ (Z.take t ++ x :: Z.drop t)).map chD)) := by
  have ok := cfB_ok hent
  obtain ⟨a, ha⟩ : ∃ a, A.length = a := ⟨_, rfl⟩
  obtain ⟨T, hT⟩ : ∃ T, (A ++ (Z.take t ++ x :: Z.drop t)).map chD = T := ⟨_, rfl⟩
  obtain ⟨e, he⟩ : ∃ e, a + 1 + t = e := ⟨_, rfl⟩
  have hlen : a + (Z.length + 1) ≤ 65536 := by have := hok.1; simp only [List.length_append, List.length_cons] at this; omega
  rw [hT, ha, he]
  have key := WK.rec' (P := Try.prog) (m := 1) (k := stackAt syC 1) (Q := EndsY T) (fun (s : Nat) => sy1u ((A ++ (Z.take s ++ x :: Z.drop s)).map chD) (e : Int) ((a + s : Nat) : Int)) (fun s => s ≤ t) (fun s => t - s) ?_ 0 (Nat.zero_le _)
  · simpa using key
  intro s hs ih
  obtain ⟨i, hi⟩ : ∃ i, a + s = i := ⟨_, rfl⟩
  obtain ⟨r, hr⟩ : ∃ r, a + t = r := ⟨_, rfl⟩
  rw [hi]
  by_cases hlt : s < t
  · obtain ⟨y, hy⟩ : ∃ y, Z[s]'(by omega) = y := ⟨_, rfl⟩
    have ey : Z.drop s = y :: Z.drop (s + 1) := by rw [List.drop_eq_getElem_cons (by omega), hy]
    have ty : Z.take (s + 1) = Z.take s ++ [y] := by rw [List.take_add_one, List.getElem?_eq_getElem (by omega), hy]; rfl
    have lt : (Z.take s).length = s := by rw [List.length_take]; omega
    have hnx := ih (s + 1) hlt (by omega)
    rw [show a + (s + 1) = i + 1 by omega] at hnx
    have e0 : A ++ (Z.take s ++ x :: Z.drop s) = (A ++ Z.take s) ++ x :: (y :: Z.drop (s + 1)) := by rw [ey]; simp
    have gx : ((A ++ Z.take s) ++ x :: (y :: Z.drop (s + 1)))[i]? = some x := get_mid _ _ _ _ (by simp; omega)
    have gy : ((A ++ Z.take s) ++ x :: (y :: Z.drop (s + 1)))[i + 1]? = some y := by
      have := get_mid ((A ++ Z.take s) ++ [x]) y (Z.drop (s + 1)) (i + 1) (by simp; omega)
      simpa using this
    have es : (((A ++ Z.take s) ++ x :: (y :: Z.drop (s + 1))).set i y).set (i + 1) x = A ++ (Z.take (s + 1) ++ x :: Z.drop (s + 1)) := by
      rw [set_mid _ _ _ _ _ (by simp; omega)]
      have := set_mid ((A ++ Z.take s) ++ [y]) y x (Z.drop (s + 1)) (i + 1) (by simp; omega)
      rw [ty]
      simpa using this
    rw [← es] at hnx
    rw [e0]
    have hll : ((A ++ Z.take s) ++ x :: (y :: Z.drop (s + 1))).length ≤ 65536 := by
      simp only [List.length_append, List.length_cons, lt, List.length_drop]; omega
    generalize ((A ++ Z.take s) ++ x :: (y :: Z.drop (s + 1))) = L at *
    have hlj := lt_of_some gy
    have hml : (L.map chD).length = L.length := List.length_map ..
    rcases Bool.eq_false_or_eq_true (decide ((Nat.cast (R := Int) i) < (Nat.cast (R := Int) r)) : Bool) with h58 | h58
    · skip
      refine WK.segA ok 1000 0 [(57, RV.d (DV.int Go.IntKind.i64 (Nat.cast (R := Int) r))), (65, RV.d (DV.int Go.IntKind.i64 (Nat.cast (R := Int) (i + 1)))), (68, RV.d (DV.int Go.IntKind.i64 (Nat.cast (R := Int) (i + 1)))), (70, RV.d (DV.agg [DV.str y.1, DV.lst 3 (List.map vD y.2) false, DV.lst 3 (List.map vD y.3) false, DV.lst 3 (List.map vD y.4) false])), (74, RV.d (DV.agg [DV.str x.1, DV.lst 3 (List.map vD x.2) false, DV.lst 3 (List.map vD x.3) false, DV.lst 3 (List.map vD x.4) false])), (60, RV.d (DV.int Go.IntKind.i64 (Nat.cast (R := Int) (i + 1)))), (58, RV.d (DV.bool true))] [] [0, 10, 13] [decide (0 ≤ (Nat.cast (R := Int) (i + 1)) ∧ (Nat.cast (R := Int) (i + 1)) < (Nat.cast (R := Int) (L.map chD).length)), decide ((Nat.cast (R := Int) (i + 1)).toNat < (L.map chD).length), Nat.ble 4 ((L.map chD).getD (Nat.cast (R := Int) (i + 1)).toNat DV.nilp).cells.length, decide (0 ≤ (Nat.cast (R := Int) i) ∧ (Nat.cast (R := Int) i) < (Nat.cast (R := Int) (L.map chD).length)), decide ((Nat.cast (R := Int) i).toNat < (L.map chD).length), Nat.ble 4 ((L.map chD).getD (Nat.cast (R := Int) i).toNat DV.nilp).cells.length, decide (0 ≤ (Nat.cast (R := Int) i) ∧ (Nat.cast (R := Int) i) < (Nat.cast (R := Int) (L.map chD).length)), decide ((Nat.cast (R := Int) i).toNat < (L.map chD).length), decide (0 ≤ (Nat.cast (R := Int) (i + 1)) ∧ (Nat.cast (R := Int) (i + 1)) < (Nat.cast (R := Int) ((L.map chD).set (Nat.cast (R := Int) i).toNat (chD y)).length)), decide ((Nat.cast (R := Int) (i + 1)).toNat < ((L.map chD).set (Nat.cast (R := Int) i).toNat (chD y)).length)] [(RV.d (DV.int Go.IntKind.i64 (Go.IntKind.i64.wrap ((Nat.cast (R := Int) e) - 1))), RV.d (DV.int Go.IntKind.i64 (Nat.cast (R := Int) r))), (RV.d (DV.bool (decide ((Nat.cast (R := Int) i) < (Nat.cast (R := Int) r)))), RV.d (DV.bool true)), (RV.d (DV.int Go.IntKind.i64 (Go.IntKind.i64.wrap ((Nat.cast (R := Int) i) + 1))), RV.d (DV.int Go.IntKind.i64 (Nat.cast (R := Int) (i + 1)))), (RV.d (DV.int Go.IntKind.i64 (Go.IntKind.i64.wrap ((Nat.cast (R := Int) i) + 1))), RV.d (DV.int Go.IntKind.i64 (Nat.cast (R := Int) (i + 1)))), (RV.d (DV.agg (List.take 4 (List.drop 0 ((L.map chD).getD (Nat.cast (R := Int) (i + 1)).toNat DV.nilp).cells))), RV.d (DV.agg [DV.str y.1, DV.lst 3 (List.map vD y.2) false, DV.lst 3 (List.map vD y.3) false, DV.lst 3 (List.map vD y.4) false])), (RV.d (DV.agg (List.take 4 (List.drop 0 ((L.map chD).getD (Nat.cast (R := Int) i).toNat DV.nilp).cells))), RV.d (DV.agg [DV.str x.1, DV.lst 3 (List.map vD x.2) false, DV.lst 3 (List.map vD x.3) false, DV.lst 3 (List.map vD x.4) false])), (RV.d (DV.int Go.IntKind.i64 (Go.IntKind.i64.wrap ((Nat.cast (R := Int) i) + 1))), RV.d (DV.int Go.IntKind.i64 (Nat.cast (R := Int) (i + 1))))] rfl (by kernel_rfl : runSegA (cfB (ts3 N)) 1000 0 _ _ _ _ (sy1u (L.map chD) (e : Int) (i : Int)) = some (stackAt syC 1, sy1u (((L.map chD).set (Nat.cast (R := Int) i).toNat (DV.agg [DV.str y.1, DV.lst 3 (List.map vD y.2) false, DV.lst 3 (List.map vD y.3) false, DV.lst 3 (List.map vD y.4) false])).set (Nat.cast (R := Int) (i + 1)).toNat (DV.agg [DV.str x.1, DV.lst 3 (List.map vD x.2) false, DV.lst 3 (List.map vD x.3) false, DV.lst 3 (List.map vD x.4) false])) (e : Int) ((i + 1 : Nat) : Int), _, _)) (by refine ⟨?_, ?_, ?_, ?_, ?_, ?_, ?_, ?_, ?_, ?_, trivial⟩ <;> (first | exact bd_in gy | exact bd_in2 gy | exact bd_ble gy | exact bd_in gx | exact bd_in2 gx | exact bd_ble gx | (refine decide_eq_true ?_; simp only [Int.toNat_natCast, List.length_set, List.length_map]; omega))) (by refine ⟨?_, le_bool h58, ?_, ?_, ?_, ?_, ?_, trivial⟩ <;> (first | exact le_bool (decide_eq_true (by omega)) | exact ov_load gx | exact ov_load gy | exact ov_succ (by omega) | exact ov_dec (by omega) (by omega))) ?_
      show WK Try.prog 1 (stackAt syC 1) (sy1u (((L.map chD).set (i : Int).toNat (chD y)).set ((i + 1 : Nat) : Int).toNat (chD x)) (e : Int) ((i + 1 : Nat) : Int)).den _
      rw [Int.toNat_natCast, Int.toNat_natCast, map_set', map_set']
      exact hnx
    · skip
      exact WK.fin ok 1000 0 [(57, RV.d (DV.int Go.IntKind.i64 (Nat.cast (R := Int) r))), (65, RV.d (DV.int Go.IntKind.i64 (Nat.cast (R := Int) (i + 1)))), (68, RV.d (DV.int Go.IntKind.i64 (Nat.cast (R := Int) (i + 1)))), (70, RV.d (DV.agg [DV.str y.1, DV.lst 3 (List.map vD y.2) false, DV.lst 3 (List.map vD y.3) false, DV.lst 3 (List.map vD y.4) false])), (74, RV.d (DV.agg [DV.str x.1, DV.lst 3 (List.map vD x.2) false, DV.lst 3 (List.map vD x.3) false, DV.lst 3 (List.map vD x.4) false])), (60, RV.d (DV.int Go.IntKind.i64 (Nat.cast (R := Int) (i + 1)))), (58, RV.d (DV.bool false))] [] [(RV.d (DV.int Go.IntKind.i64 (Go.IntKind.i64.wrap ((Nat.cast (R := Int) e) - 1))), RV.d (DV.int Go.IntKind.i64 (Nat.cast (R := Int) r))), (RV.d (DV.bool (decide ((Nat.cast (R := Int) i) < (Nat.cast (R := Int) r)))), RV.d (DV.bool false))] rfl (by kernel_rfl : runEnd (cfB (ts3 N)) false _ 1000 0 _ _ (sy1u (L.map chD) (e : Int) (i : Int)) = some (RV.tup [], [PObj.arr 46 4 (L.map chD)], _, _)) trivial ⟨(by first | exact le_bool (decide_eq_true (by omega)) | exact ov_load gx | exact ov_load gy | exact ov_succ (by omega) | exact ov_dec (by omega) (by omega)), le_bool h58, trivial⟩ (by exfalso; have := of_decide_eq_false h58; omega)
  · have hst : s = t := by omega
    rw [hst, hT]
    exact WK.fin ok 1000 0 [(57, .d (.int .i64 (r : Int))), (58, .d (.bool false))] [] [(.d (.int .i64 (IntKind.i64.wrap ((e : Int) - 1))), .d (.int .i64 (r : Int))), (.d (.bool (decide ((Nat.cast (R := Int) i) < (Nat.cast (R := Int) r)))), .d (.bool false))] rfl (by kernel_rfl : runEnd (cfB (ts3 N)) false _ 1000 0 _ _ (sy1u T (e : Int) (i : Int)) = some (.tup [], arC T, _, _)) trivial ⟨ov_dec (by omega) (by omega), le_bool (decide_eq_false (by omega)), trivial⟩ ⟨rfl, rfl⟩
/-- the last is moved ahead, behind t others -/
theorem sy_down {N : Nat} (hent : EntsOk Try.prog (ts3 N)) (A X : List Chg) (y : Chg) (R : List Chg) (t : Nat) (ht : t ≤ X.length) (hok : okL (A ++ (X ++ y :: R))) :
    WK Try.prog 1 (stackAt syC 3) (sy2d ((A ++ (X ++ y :: R)).map chD) ((A.length + t : Nat) : Int) ((A.length + X.length : Nat) : Int)).den (EndsY ((A ++ (X.take t ++ y :: (X.drop t ++ R))).map chD)) := by
  have ok := cfB_ok hent
  obtain ⟨a, ha⟩ : ∃ a, A.length = a := ⟨_, rfl⟩
  obtain ⟨T, hT⟩ : ∃ T, (A ++ (X.take t ++ y :: (X.drop t ++ R))).map chD = T := ⟨_, rfl⟩
  obtain ⟨e, he⟩ : ∃ e, a + t = e := ⟨_, rfl⟩
  have hlen : a + (X.length + (R.length + 1)) ≤ 65536 := by have := hok.1; simp only [List.length_append, List.length_cons] at this; omega
  rw [hT, ha, he]
  have key := WK.rec' (P := Try.prog) (m := 1) (k := stackAt syC 3) (Q := EndsY T) (fun (s : Nat) => sy2d ((A ++ (X.take s ++ y :: (X.drop s ++ R))).map chD) (e : Int) ((a + s : Nat) : Int)) (fun s => t ≤ s ∧ s ≤ X.length) (fun s => s - t) ?_ X.length ⟨ht, Nat.le_refl _⟩
  · simpa using key
  rintro s ⟨hs1, hs2⟩ ih
  obtain ⟨i, hi⟩ : ∃ i, a + s = i := ⟨_, rfl⟩
  rw [hi]
  by_cases hlt : t < s
  · obtain ⟨s', rfl⟩ : ∃ s', s = s' + 1 := ⟨s - 1, by omega⟩
    obtain ⟨k, hk⟩ : ∃ k, a + s' = k := ⟨_, rfl⟩
    obtain ⟨x, hx⟩ : ∃ x, X[s']'(by omega) = x := ⟨_, rfl⟩
    have ex : X.drop s' = x :: X.drop (s' + 1) := by rw [List.drop_eq_getElem_cons (by omega), hx]
    have tx : X.take (s' + 1) = X.take s' ++ [x] := by rw [List.take_add_one, List.getElem?_eq_getElem (by omega), hx]; rfl
    have lt : (X.take s').length = s' := by rw [List.length_take]; omega
    have hnx := ih s' ⟨by omega, by omega⟩ (by omega)
    rw [hk] at hnx
    have e0 : A ++ (X.take (s' + 1) ++ y :: (X.drop (s' + 1) ++ R)) = (A ++ X.take s') ++ x :: (y :: (X.drop (s' + 1) ++ R)) := by rw [tx]; simp
    have gx : ((A ++ X.take s') ++ x :: (y :: (X.drop (s' + 1) ++ R)))[k]? = some x := get_mid _ _ _ _ (by simp; omega)
    have gy : ((A ++ X.take s') ++ x :: (y :: (X.drop (s' + 1) ++ R)))[i]? = some y := by
      have := get_mid ((A ++ X.take s') ++ [x]) y (X.drop (s' + 1) ++ R) i (by simp; omega)
      simpa using this
    have es : (((A ++ X.take s') ++ x :: (y :: (X.drop (s' + 1) ++ R))).set i x).set k y = A ++ (X.take s' ++ y :: (X.drop s' ++ R)) := by
      have h1 : ((A ++ X.take s') ++ x :: (y :: (X.drop (s' + 1) ++ R))).set i x = (A ++ X.take s') ++ x :: (x :: (X.drop (s' + 1) ++ R)) := by
        have := set_mid ((A ++ X.take s') ++ [x]) y x (X.drop (s' + 1) ++ R) i (by simp; omega)
        simpa using this
      rw [h1, set_mid _ _ _ _ _ (by simp; omega), ex]
      simp
    rw [← es] at hnx
    rw [e0]
    have hll : ((A ++ X.take s') ++ x :: (y :: (X.drop (s' + 1) ++ R))).length ≤ 65536 := by
      simp only [List.length_append, List.length_cons, lt, List.length_drop]; omega
    generalize ((A ++ X.take s') ++ x :: (y :: (X.drop (s' + 1) ++ R))) = L at *
    have hlj := lt_of_some gy
    have hml : (L.map chD).length = L.length := List.length_map ..
    rcases Bool.eq_false_or_eq_true (decide ((Nat.cast (R := Int) e) < (Nat.cast (R := Int) i)) : Bool) with h110 | h110
    · skip
      refine WK.segA ok 1000 0 [(117, RV.d (DV.int Go.IntKind.i64 (Nat.cast (R := Int) k))), (120, RV.d (DV.int Go.IntKind.i64 (Nat.cast (R := Int) k))), (122, RV.d (DV.agg [DV.str x.1, DV.lst 3 (List.map vD x.2) false, DV.lst 3 (List.map vD x.3) false, DV.lst 3 (List.map vD x.4) false])), (126, RV.d (DV.agg [DV.str y.1, DV.lst 3 (List.map vD y.2) false, DV.lst 3 (List.map vD y.3) false, DV.lst 3 (List.map vD y.4) false])), (112, RV.d (DV.int Go.IntKind.i64 (Nat.cast (R := Int) k))), (110, RV.d (DV.bool true))] [] [0, 14, 17] [decide (0 ≤ (Nat.cast (R := Int) k) ∧ (Nat.cast (R := Int) k) < (Nat.cast (R := Int) (L.map chD).length)), decide ((Nat.cast (R := Int) k).toNat < (L.map chD).length), Nat.ble 4 ((L.map chD).getD (Nat.cast (R := Int) k).toNat DV.nilp).cells.length, decide (0 ≤ (Nat.cast (R := Int) i) ∧ (Nat.cast (R := Int) i) < (Nat.cast (R := Int) (L.map chD).length)), decide ((Nat.cast (R := Int) i).toNat < (L.map chD).length), Nat.ble 4 ((L.map chD).getD (Nat.cast (R := Int) i).toNat DV.nilp).cells.length, decide (0 ≤ (Nat.cast (R := Int) i) ∧ (Nat.cast (R := Int) i) < (Nat.cast (R := Int) (L.map chD).length)), decide ((Nat.cast (R := Int) i).toNat < (L.map chD).length), decide (0 ≤ (Nat.cast (R := Int) k) ∧ (Nat.cast (R := Int) k) < (Nat.cast (R := Int) ((L.map chD).set (Nat.cast (R := Int) i).toNat (chD x)).length)), decide ((Nat.cast (R := Int) k).toNat < ((L.map chD).set (Nat.cast (R := Int) i).toNat (chD x)).length)] [(RV.d (DV.bool (decide ((Nat.cast (R := Int) e) < (Nat.cast (R := Int) i)))), RV.d (DV.bool true)), (RV.d (DV.int Go.IntKind.i64 (Go.IntKind.i64.wrap ((Nat.cast (R := Int) i) - 1))), RV.d (DV.int Go.IntKind.i64 (Nat.cast (R := Int) k))), (RV.d (DV.int Go.IntKind.i64 (Go.IntKind.i64.wrap ((Nat.cast (R := Int) i) - 1))), RV.d (DV.int Go.IntKind.i64 (Nat.cast (R := Int) k))), (RV.d (DV.agg (List.take 4 (List.drop 0 ((L.map chD).getD (Nat.cast (R := Int) k).toNat DV.nilp).cells))), RV.d (DV.agg [DV.str x.1, DV.lst 3 (List.map vD x.2) false, DV.lst 3 (List.map vD x.3) false, DV.lst 3 (List.map vD x.4) false])), (RV.d (DV.agg (List.take 4 (List.drop 0 ((L.map chD).getD (Nat.cast (R := Int) i).toNat DV.nilp).cells))), RV.d (DV.agg [DV.str y.1, DV.lst 3 (List.map vD y.2) false, DV.lst 3 (List.map vD y.3) false, DV.lst 3 (List.map vD y.4) false])), (RV.d (DV.int Go.IntKind.i64 (Go.IntKind.i64.wrap ((Nat.cast (R := Int) i) - 1))), RV.d (DV.int Go.IntKind.i64 (Nat.cast (R := Int) k)))] rfl (by kernel_rfl : runSegA (cfB (ts3 N)) 1000 0 _ _ _ _ (sy2d (L.map chD) (e : Int) (i : Int)) = some (stackAt syC 3, sy2d (((L.map chD).set (Nat.cast (R := Int) i).toNat (DV.agg [DV.str x.1, DV.lst 3 (List.map vD x.2) false, DV.lst 3 (List.map vD x.3) false, DV.lst 3 (List.map vD x.4) false])).set (Nat.cast (R := Int) k).toNat (DV.agg [DV.str y.1, DV.lst 3 (List.map vD y.2) false, DV.lst 3 (List.map vD y.3) false, DV.lst 3 (List.map vD y.4) false])) (e : Int) (k : Int), _, _)) (by refine ⟨?_, ?_, ?_, ?_, ?_, ?_, ?_, ?_, ?_, ?_, trivial⟩ <;> (first | exact bd_in gy | exact bd_in2 gy | exact bd_ble gy | exact bd_in gx | exact bd_in2 gx | exact bd_ble gx | (refine decide_eq_true ?_; simp only [Int.toNat_natCast, List.length_set, List.length_map]; omega))) (by refine ⟨le_bool h110, ?_, ?_, ?_, ?_, ?_, trivial⟩ <;> (first | exact le_bool (decide_eq_true (by omega)) | exact ov_load gx | exact ov_load gy | exact ov_succ (by omega) | exact ov_dec (by omega) (by omega))) ?_
      show WK Try.prog 1 (stackAt syC 3) (sy2d (((L.map chD).set (i : Int).toNat (chD x)).set (k : Int).toNat (chD y)) (e : Int) (k : Int)).den _
      rw [Int.toNat_natCast, Int.toNat_natCast, map_set', map_set']
      exact hnx
    · skip
      exact WK.fin ok 1000 0 [(117, RV.d (DV.int Go.IntKind.i64 (Nat.cast (R := Int) k))), (120, RV.d (DV.int Go.IntKind.i64 (Nat.cast (R := Int) k))), (122, RV.d (DV.agg [DV.str x.1, DV.lst 3 (List.map vD x.2) false, DV.lst 3 (List.map vD x.3) false, DV.lst 3 (List.map vD x.4) false])), (126, RV.d (DV.agg [DV.str y.1, DV.lst 3 (List.map vD y.2) false, DV.lst 3 (List.map vD y.3) false, DV.lst 3 (List.map vD y.4) false])), (112, RV.d (DV.int Go.IntKind.i64 (Nat.cast (R := Int) k))), (110, RV.d (DV.bool false))] [] [(RV.d (DV.bool (decide ((Nat.cast (R := Int) e) < (Nat.cast (R := Int) i)))), RV.d (DV.bool false))] rfl (by kernel_rfl : runEnd (cfB (ts3 N)) false _ 1000 0 _ _ (sy2d (L.map chD) (e : Int) (i : Int)) = some (RV.tup [], [PObj.arr 46 4 (L.map chD)], _, _)) trivial ⟨le_bool h110, trivial⟩ (by exfalso; have := of_decide_eq_false h110; omega)
  · have hst : s = t := by omega
    rw [hst, hT]
    exact WK.fin ok 1000 0 [(110, .d (.bool false))] [] [(.d (.bool (decide ((Nat.cast (R := Int) e) < (Nat.cast (R := Int) i)))), .d (.bool false))] rfl (by kernel_rfl : runEnd (cfB (ts3 N)) false _ 1000 0 _ _ (sy2d T (e : Int) (i : Int)) = some (.tup [], arC T, _, _)) trivial ⟨le_bool (decide_eq_false (by omega)), trivial⟩ ⟨rfl, rfl⟩
set_option maxHeartbeats 2000000 in
/-- one ahead of a sorted part -/
theorem sy_one {N : Nat} (hent : EntsOk Try.prog (ts3 N)) (A : List Chg) (x : Chg) (Y B : List Chg) (hs : Srt.srtB cmpC Y = true) (hok : okL (A ++ x :: (Y ++ B))) :
    WK Try.prog 1 (stackAt syC 0) (sy1 ((A ++ x :: (Y ++ B)).map chD) (A.length : Int) ((A.length + 1 : Nat) : Int) ((A.length + 1 + Y.length : Nat) : Int)).den (EndsY ((A ++ (Srt.mrg cmpC [x] Y ++ B)).map chD)) := by
  have ok := cfB_ok hent
  obtain ⟨a, ha⟩ : ∃ a, A.length = a := ⟨_, rfl⟩
  obtain ⟨T, hT⟩ : ∃ T, (A ++ (Srt.mrg cmpC [x] Y ++ B)).map chD = T := ⟨_, rfl⟩
  have hlen : a + (Y.length + B.length + 1) ≤ 65536 := by have := hok.1; simp only [List.length_append, List.length_cons] at this; omega
  have hup := fun t ht => sy_up hent A x (Y ++ B) t ht hok
  have hxo : Chg.ok x := hok.2 x (by simp)
  have hyo : ∀ y ∈ Y, Chg.ok y := fun y hy => hok.2 y (by simp [hy])
  have gx : (A ++ x :: (Y ++ B))[a]? = some x := get_mid _ _ _ _ ha.symm
  have gY : ∀ (w : Nat) (y : Chg), Y[w]? = some y → (A ++ x :: (Y ++ B))[a + 1 + w]? = some y := fun w y h => by
    have hw := (List.getElem?_eq_some_iff.1 h).1
    rw [show A ++ x :: (Y ++ B) = (A ++ [x]) ++ (Y ++ B) by simp, get_in _ _ _ (by simp; omega) (by simp; omega), ← h]
    congr 1; simp; omega
  rw [hT, ha]
  rw [ha] at hup
  have key := WK.rec' (P := Try.prog) (m := 1) (k := stackAt syC 0) (Q := EndsY T) (fun (q : Nat × Nat) => sy1 ((A ++ x :: (Y ++ B)).map chD) (a : Int) ((a + 1 + q.1 : Nat) : Int) ((a + 1 + q.2 : Nat) : Int))
    (fun q => q.1 ≤ q.2 ∧ q.2 ≤ Y.length ∧ (q.1 = 0 ∨ ∃ y, Y[q.1 - 1]? = some y ∧ cmpC y x < 0) ∧ (q.2 = Y.length ∨ ∃ y, Y[q.2]? = some y ∧ ¬ cmpC y x < 0)) (fun q => q.2 - q.1) ?_ (0, Y.length) ⟨Nat.zero_le _, Nat.le_refl _, .inl rfl, .inl rfl⟩
  · simpa using key
  rintro ⟨t, u⟩ ⟨h1, h2, h3, h4⟩ ih
  simp only at h1 h2 h3 h4 ih ⊢
  obtain ⟨i, hi⟩ : ∃ i, a + 1 + t = i := ⟨_, rfl⟩
  obtain ⟨j, hj⟩ : ∃ j, a + 1 + u = j := ⟨_, rfl⟩
  rw [hi, hj]
  by_cases hlt : t < u
  · obtain ⟨w, hw⟩ : ∃ w, (t + u) / 2 = w := ⟨_, rfl⟩
    obtain ⟨k, hk⟩ : ∃ k, a + 1 + w = k := ⟨_, rfl⟩
    obtain ⟨y, hy⟩ : ∃ y, Y[w]'(by omega) = y := ⟨_, rfl⟩
    have hyw : Y[w]? = some y := by rw [List.getElem?_eq_getElem (by omega), hy]
    have gy := gY w y hyw
    rw [hk] at gy
    have hyo := hyo y (List.mem_of_getElem? hyw)
    have hlo : cmpC y x < 0 → _ := fun h => ih (w + 1, u) ⟨by simp only; omega, h2, .inr ⟨y, by simpa using hyw, h⟩, h4⟩ (by simp only; omega)
    have hhi : ¬ cmpC y x < 0 → _ := fun h => ih (t, w) ⟨by simp only; omega, by simp only; omega, h3, .inr ⟨y, hyw, h⟩⟩ (by simp only; omega)
    simp only [show a + 1 + (w + 1) = k + 1 by omega, hk, hi, hj] at hlo hhi
    generalize A ++ x :: (Y ++ B) = L at *
    have hlk := lt_of_some gy
    have hml : (L.map chD).length = L.length := List.length_map ..
    obtain ⟨l, hl⟩ : ∃ l, L.map chD = l := ⟨_, rfl⟩
    have bx1 := bd_in gx
    have bx2 := bd_in2 gx
    have bx3 := bd_ble gx
    have bx4 := ov_load gx
    have by1 := bd_in gy
    have by2 := bd_in2 gy
    have by3 := bd_ble gy
    have by4 := ov_load gy
    rw [hl] at hlo hhi bx1 bx2 bx3 bx4 by1 by2 by3 by4 ⊢
    rcases Bool.eq_false_or_eq_true (decide (Plain.cmpC y x < 0) : Bool) with h50 | h50
    · skip
      refine WK.segA ok 1000 0 [(33, RV.d (DV.bool true)), (39, RV.d (DV.int Go.IntKind.i64 (Nat.cast (R := Int) k))), (44, RV.d (DV.agg [DV.str y.1, DV.lst 3 (List.map vD y.2) false, DV.lst 3 (List.map vD y.3) false, DV.lst 3 (List.map vD y.4) false])), (48, RV.d (DV.agg [DV.str x.1, DV.lst 3 (List.map vD x.2) false, DV.lst 3 (List.map vD x.3) false, DV.lst 3 (List.map vD x.4) false])), (49, RV.d (DV.int Go.IntKind.i64 (Plain.cmpC y x))), (52, RV.d (DV.int Go.IntKind.i64 (Nat.cast (R := Int) (k + 1)))), (50, RV.d (DV.bool true))] [] [0, 1, 4, 10, 11] [true, decide (0 ≤ (Nat.cast (R := Int) k) ∧ (Nat.cast (R := Int) k) < (Nat.cast (R := Int) l.length)), decide ((Nat.cast (R := Int) k).toNat < l.length), Nat.ble 4 (l.getD (Nat.cast (R := Int) k).toNat DV.nilp).cells.length, decide (0 ≤ (Nat.cast (R := Int) a) ∧ (Nat.cast (R := Int) a) < (Nat.cast (R := Int) l.length)), decide ((Nat.cast (R := Int) a).toNat < l.length), Nat.ble 4 (l.getD (Nat.cast (R := Int) a).toNat DV.nilp).cells.length, isC (DV.agg [DV.str y.1, DV.lst 3 (List.map vD y.2) false, DV.lst 3 (List.map vD y.3) false, DV.lst 3 (List.map vD y.4) false]), isC (DV.agg [DV.str x.1, DV.lst 3 (List.map vD x.2) false, DV.lst 3 (List.map vD x.3) false, DV.lst 3 (List.map vD x.4) false])] [(RV.d (DV.bool (decide ((Nat.cast (R := Int) i) < (Nat.cast (R := Int) j)))), RV.d (DV.bool true)), (RV.d (DV.int Go.IntKind.i64 (Go.IntKind.i64.wrap ((Go.IntKind.u64.wrap (Go.IntKind.i64.wrap ((Nat.cast (R := Int) i) + (Nat.cast (R := Int) j)))).fdiv (2)))), RV.d (DV.int Go.IntKind.i64 (Nat.cast (R := Int) k))), (RV.d (DV.agg (List.take 4 (List.drop 0 (l.getD (Nat.cast (R := Int) k).toNat DV.nilp).cells))), RV.d (DV.agg [DV.str y.1, DV.lst 3 (List.map vD y.2) false, DV.lst 3 (List.map vD y.3) false, DV.lst 3 (List.map vD y.4) false])), (RV.d (DV.agg (List.take 4 (List.drop 0 (l.getD (Nat.cast (R := Int) a).toNat DV.nilp).cells))), RV.d (DV.agg [DV.str x.1, DV.lst 3 (List.map vD x.2) false, DV.lst 3 (List.map vD x.3) false, DV.lst 3 (List.map vD x.4) false])), (RV.d (DV.int Go.IntKind.i64 (Plain.cmpC { t := y.1, k := List.map toVal (List.map vD y.k), o := List.map toVal (List.map vD y.o), n := List.map toVal (List.map vD y.n) } { t := x.1, k := List.map toVal (List.map vD x.k), o := List.map toVal (List.map vD x.o), n := List.map toVal (List.map vD x.n) })), RV.d (DV.int Go.IntKind.i64 (Plain.cmpC y x))), (RV.d (DV.bool (decide (Plain.cmpC y x < 0))), RV.d (DV.bool true)), (RV.d (DV.int Go.IntKind.i64 (Go.IntKind.i64.wrap ((Nat.cast (R := Int) k) + 1))), RV.d (DV.int Go.IntKind.i64 (Nat.cast (R := Int) (k + 1))))] rfl (by kernel_rfl : runSegA (cfB (ts3 N)) 1000 0 _ _ _ _ (sy1 l (a : Int) (i : Int) (j : Int)) = some (stackAt syC 0, sy1 l (a : Int) (Nat.cast (R := Int) (k + 1)) (Nat.cast (R := Int) j), _, _)) (by refine ⟨?_, ?_, ?_, ?_, ?_, ?_, ?_, ?_, ?_, trivial⟩ <;> (first | rfl | exact bx1 | exact bx2 | exact bx3 | exact by1 | exact by2 | exact by3 | exact isC_chD hxo | exact isC_chD hyo)) (by refine ⟨?_, ?_, ?_, ?_, ?_, le_bool h50, ?_, trivial⟩ <;> (first | exact le_bool (decide_eq_true (by omega)) | exact ov_half (by omega) (by omega) | exact bx4 | exact by4 | exact ov_C y x | exact ov_succ (by omega))) ?_
      first | exact hlo (of_decide_eq_true h50) | exact hhi (of_decide_eq_false h50)
    · skip
      refine WK.segA ok 1000 0 [(33, RV.d (DV.bool true)), (39, RV.d (DV.int Go.IntKind.i64 (Nat.cast (R := Int) k))), (44, RV.d (DV.agg [DV.str y.1, DV.lst 3 (List.map vD y.2) false, DV.lst 3 (List.map vD y.3) false, DV.lst 3 (List.map vD y.4) false])), (48, RV.d (DV.agg [DV.str x.1, DV.lst 3 (List.map vD x.2) false, DV.lst 3 (List.map vD x.3) false, DV.lst 3 (List.map vD x.4) false])), (49, RV.d (DV.int Go.IntKind.i64 (Plain.cmpC y x))), (52, RV.d (DV.int Go.IntKind.i64 (Nat.cast (R := Int) (k + 1)))), (50, RV.d (DV.bool false))] [] [0, 1, 4, 10, 11] [true, decide (0 ≤ (Nat.cast (R := Int) k) ∧ (Nat.cast (R := Int) k) < (Nat.cast (R := Int) l.length)), decide ((Nat.cast (R := Int) k).toNat < l.length), Nat.ble 4 (l.getD (Nat.cast (R := Int) k).toNat DV.nilp).cells.length, decide (0 ≤ (Nat.cast (R := Int) a) ∧ (Nat.cast (R := Int) a) < (Nat.cast (R := Int) l.length)), decide ((Nat.cast (R := Int) a).toNat < l.length), Nat.ble 4 (l.getD (Nat.cast (R := Int) a).toNat DV.nilp).cells.length, isC (DV.agg [DV.str y.1, DV.lst 3 (List.map vD y.2) false, DV.lst 3 (List.map vD y.3) false, DV.lst 3 (List.map vD y.4) false]), isC (DV.agg [DV.str x.1, DV.lst 3 (List.map vD x.2) false, DV.lst 3 (List.map vD x.3) false, DV.lst 3 (List.map vD x.4) false])] [(RV.d (DV.bool (decide ((Nat.cast (R := Int) i) < (Nat.cast (R := Int) j)))), RV.d (DV.bool true)), (RV.d (DV.int Go.IntKind.i64 (Go.IntKind.i64.wrap ((Go.IntKind.u64.wrap (Go.IntKind.i64.wrap ((Nat.cast (R := Int) i) + (Nat.cast (R := Int) j)))).fdiv (2)))), RV.d (DV.int Go.IntKind.i64 (Nat.cast (R := Int) k))), (RV.d (DV.agg (List.take 4 (List.drop 0 (l.getD (Nat.cast (R := Int) k).toNat DV.nilp).cells))), RV.d (DV.agg [DV.str y.1, DV.lst 3 (List.map vD y.2) false, DV.lst 3 (List.map vD y.3) false, DV.lst 3 (List.map vD y.4) false])), (RV.d (DV.agg (List.take 4 (List.drop 0 (l.getD (Nat.cast (R := Int) a).toNat DV.nilp).cells))), RV.d (DV.agg [DV.str x.1, DV.lst 3 (List.map vD x.2) false, DV.lst 3 (List.map vD x.3) false, DV.lst 3 (List.map vD x.4) false])), (RV.d (DV.int Go.IntKind.i64 (Plain.cmpC { t := y.1, k := List.map toVal (List.map vD y.k), o := List.map toVal (List.map vD y.o), n := List.map toVal (List.map vD y.n) } { t := x.1, k := List.map toVal (List.map vD x.k), o := List.map toVal (List.map vD x.o), n := List.map toVal (List.map vD x.n) })), RV.d (DV.int Go.IntKind.i64 (Plain.cmpC y x))), (RV.d (DV.bool (decide (Plain.cmpC y x < 0))), RV.d (DV.bool false))] rfl (by kernel_rfl : runSegA (cfB (ts3 N)) 1000 0 _ _ _ _ (sy1 l (a : Int) (i : Int) (j : Int)) = some (stackAt syC 0, sy1 l (a : Int) (Nat.cast (R := Int) i) (Nat.cast (R := Int) k), _, _)) (by refine ⟨?_, ?_, ?_, ?_, ?_, ?_, ?_, ?_, ?_, trivial⟩ <;> (first | rfl | exact bx1 | exact bx2 | exact bx3 | exact by1 | exact by2 | exact by3 | exact isC_chD hxo | exact isC_chD hyo)) (by refine ⟨?_, ?_, ?_, ?_, ?_, le_bool h50, trivial⟩ <;> (first | exact le_bool (decide_eq_true (by omega)) | exact ov_half (by omega) (by omega) | exact bx4 | exact by4 | exact ov_C y x | exact ov_succ (by omega))) ?_
      first | exact hlo (of_decide_eq_true h50) | exact hhi (of_decide_eq_false h50)
  · have e : t = u := by omega
    subst e
    have hm := Srt.one_l_at preC hs h3 h4
    have hd := hup t (by simp; omega)
    rw [hi] at hd
    have eT : (A ++ ((Y ++ B).take t ++ x :: (Y ++ B).drop t)).map chD = T := by
      rw [← hT, hm, List.take_append_of_le_length h2, List.drop_append_of_le_length h2]
      simp
    rw [eT] at hd
    obtain ⟨l, hl⟩ : ∃ l, (A ++ x :: (Y ++ B)).map chD = l := ⟨_, rfl⟩
    rw [hl] at hd ⊢
    have hj' : j = i := by omega
    refine WK.segA ok 1000 0 [(33, RV.d (DV.bool false))] [] [0, 10, 13] [] [(RV.d (DV.bool (decide ((Nat.cast (R := Int) i) < (Nat.cast (R := Int) j)))), RV.d (DV.bool false))] rfl (by kernel_rfl : runSegA (cfB (ts3 N)) 1000 0 _ _ _ _ (sy1 l (a : Int) (i : Int) (j : Int)) = some (stackAt syC 1, sy1u l (i : Int) (a : Int), _, _)) trivial ⟨(by first | exact le_bool (decide_eq_false (by omega))), trivial⟩ ?_
    exact hd
set_option maxHeartbeats 2000000 in
/-- one behind a sorted part -/
theorem sy_last {N : Nat} (hent : EntsOk Try.prog (ts3 N)) (A X : List Chg) (y : Chg) (B : List Chg) (hs : Srt.srtB cmpC X = true) (hok : okL (A ++ (X ++ y :: B))) :
    WK Try.prog 1 (stackAt syC 2) (sy2 ((A ++ (X ++ y :: B)).map chD) ((A.length + X.length : Nat) : Int) (A.length : Int) ((A.length + X.length : Nat) : Int)).den (EndsY ((A ++ (Srt.mrg cmpC X [y] ++ B)).map chD)) := by
  have ok := cfB_ok hent
  obtain ⟨a, ha⟩ : ∃ a, A.length = a := ⟨_, rfl⟩
  obtain ⟨m, hm⟩ : ∃ m, a + X.length = m := ⟨_, rfl⟩
  obtain ⟨T, hT⟩ : ∃ T, (A ++ (Srt.mrg cmpC X [y] ++ B)).map chD = T := ⟨_, rfl⟩
  have hlen : a + (X.length + (B.length + 1)) ≤ 65536 := by have := hok.1; simp only [List.length_append, List.length_cons] at this; omega
  have hdn := fun t ht => sy_down hent A X y B t ht hok
  have hyo : Chg.ok y := hok.2 y (by simp)
  have hxo : ∀ x ∈ X, Chg.ok x := fun x hx => hok.2 x (by simp [hx])
  have gy : (A ++ (X ++ y :: B))[m]? = some y := by
    rw [show A ++ (X ++ y :: B) = (A ++ X) ++ y :: B by simp]; exact get_mid _ _ _ _ (by simp; omega)
  have gX : ∀ (w : Nat) (x : Chg), X[w]? = some x → (A ++ (X ++ y :: B))[a + w]? = some x := fun w x h => by
    have hw := (List.getElem?_eq_some_iff.1 h).1
    rw [get_in _ _ _ (by omega) (by omega), ← h]
    congr 1; omega
  rw [hT, ha, hm]
  rw [ha, hm] at hdn
  have key := WK.rec' (P := Try.prog) (m := 1) (k := stackAt syC 2) (Q := EndsY T) (fun (q : Nat × Nat) => sy2 ((A ++ (X ++ y :: B)).map chD) (m : Int) ((a + q.1 : Nat) : Int) ((a + q.2 : Nat) : Int))
    (fun q => q.1 ≤ q.2 ∧ q.2 ≤ X.length ∧ (q.1 = 0 ∨ ∃ x, X[q.1 - 1]? = some x ∧ ¬ cmpC y x < 0) ∧ (q.2 = X.length ∨ ∃ x, X[q.2]? = some x ∧ cmpC y x < 0)) (fun q => q.2 - q.1) ?_ (0, X.length) ⟨Nat.zero_le _, Nat.le_refl _, .inl rfl, .inl rfl⟩
  · simp only [hm, Nat.add_zero] at key
    exact key
  rintro ⟨t, u⟩ ⟨h1, h2, h3, h4⟩ ih
  simp only at h1 h2 h3 h4 ih ⊢
  obtain ⟨i, hi⟩ : ∃ i, a + t = i := ⟨_, rfl⟩
  obtain ⟨j, hj⟩ : ∃ j, a + u = j := ⟨_, rfl⟩
  rw [hi, hj]
  by_cases hlt : t < u
  · obtain ⟨w, hw⟩ : ∃ w, (t + u) / 2 = w := ⟨_, rfl⟩
    obtain ⟨k, hk⟩ : ∃ k, a + w = k := ⟨_, rfl⟩
    obtain ⟨x, hx⟩ : ∃ x, X[w]'(by omega) = x := ⟨_, rfl⟩
    have hxw : X[w]? = some x := by rw [List.getElem?_eq_getElem (by omega), hx]
    have gx := gX w x hxw
    rw [hk] at gx
    have hxo := hxo x (List.mem_of_getElem? hxw)
    have hhi : cmpC y x < 0 → _ := fun h => ih (t, w) ⟨by simp only; omega, by simp only; omega, h3, .inr ⟨x, hxw, h⟩⟩ (by simp only; omega)
    have hlo : ¬ cmpC y x < 0 → _ := fun h => ih (w + 1, u) ⟨by simp only; omega, h2, .inr ⟨x, by simpa using hxw, h⟩, h4⟩ (by simp only; omega)
    simp only [show a + (w + 1) = k + 1 by omega, hk, hi, hj] at hlo hhi
    generalize A ++ (X ++ y :: B) = L at *
    have hlk := lt_of_some gy
    have hml : (L.map chD).length = L.length := List.length_map ..
    obtain ⟨l, hl⟩ : ∃ l, L.map chD = l := ⟨_, rfl⟩
    have bx1 := bd_in gx
    have bx2 := bd_in2 gx
    have bx3 := bd_ble gx
    have bx4 := ov_load gx
    have by1 := bd_in gy
    have by2 := bd_in2 gy
    have by3 := bd_ble gy
    have by4 := ov_load gy
    rw [hl] at hlo hhi bx1 bx2 bx3 bx4 by1 by2 by3 by4 ⊢
    rcases Bool.eq_false_or_eq_true (!decide (Plain.cmpC y x < 0) : Bool) with h103 | h103
    · skip
      refine WK.segA ok 1000 0 [(85, RV.d (DV.bool true)), (91, RV.d (DV.int Go.IntKind.i64 (Nat.cast (R := Int) k))), (96, RV.d (DV.agg [DV.str y.1, DV.lst 3 (List.map vD y.2) false, DV.lst 3 (List.map vD y.3) false, DV.lst 3 (List.map vD y.4) false])), (100, RV.d (DV.agg [DV.str x.1, DV.lst 3 (List.map vD x.2) false, DV.lst 3 (List.map vD x.3) false, DV.lst 3 (List.map vD x.4) false])), (101, RV.d (DV.int Go.IntKind.i64 (Plain.cmpC y x))), (105, RV.d (DV.int Go.IntKind.i64 (Nat.cast (R := Int) (k + 1)))), (103, RV.d (DV.bool true))] [] [0, 2, 4, 14, 15] [true, decide (0 ≤ (Nat.cast (R := Int) m) ∧ (Nat.cast (R := Int) m) < (Nat.cast (R := Int) l.length)), decide ((Nat.cast (R := Int) m).toNat < l.length), Nat.ble 4 (l.getD (Nat.cast (R := Int) m).toNat DV.nilp).cells.length, decide (0 ≤ (Nat.cast (R := Int) k) ∧ (Nat.cast (R := Int) k) < (Nat.cast (R := Int) l.length)), decide ((Nat.cast (R := Int) k).toNat < l.length), Nat.ble 4 (l.getD (Nat.cast (R := Int) k).toNat DV.nilp).cells.length, isC (DV.agg [DV.str y.1, DV.lst 3 (List.map vD y.2) false, DV.lst 3 (List.map vD y.3) false, DV.lst 3 (List.map vD y.4) false]), isC (DV.agg [DV.str x.1, DV.lst 3 (List.map vD x.2) false, DV.lst 3 (List.map vD x.3) false, DV.lst 3 (List.map vD x.4) false])] [(RV.d (DV.bool (decide ((Nat.cast (R := Int) i) < (Nat.cast (R := Int) j)))), RV.d (DV.bool true)), (RV.d (DV.int Go.IntKind.i64 (Go.IntKind.i64.wrap ((Go.IntKind.u64.wrap (Go.IntKind.i64.wrap ((Nat.cast (R := Int) i) + (Nat.cast (R := Int) j)))).fdiv (2)))), RV.d (DV.int Go.IntKind.i64 (Nat.cast (R := Int) k))), (RV.d (DV.agg (List.take 4 (List.drop 0 (l.getD (Nat.cast (R := Int) m).toNat DV.nilp).cells))), RV.d (DV.agg [DV.str y.1, DV.lst 3 (List.map vD y.2) false, DV.lst 3 (List.map vD y.3) false, DV.lst 3 (List.map vD y.4) false])), (RV.d (DV.agg (List.take 4 (List.drop 0 (l.getD (Nat.cast (R := Int) k).toNat DV.nilp).cells))), RV.d (DV.agg [DV.str x.1, DV.lst 3 (List.map vD x.2) false, DV.lst 3 (List.map vD x.3) false, DV.lst 3 (List.map vD x.4) false])), (RV.d (DV.int Go.IntKind.i64 (Plain.cmpC { t := y.1, k := List.map toVal (List.map vD y.k), o := List.map toVal (List.map vD y.o), n := List.map toVal (List.map vD y.n) } { t := x.1, k := List.map toVal (List.map vD x.k), o := List.map toVal (List.map vD x.o), n := List.map toVal (List.map vD x.n) })), RV.d (DV.int Go.IntKind.i64 (Plain.cmpC y x))), (RV.d (DV.bool !decide (Plain.cmpC y x < 0)), RV.d (DV.bool true)), (RV.d (DV.int Go.IntKind.i64 (Go.IntKind.i64.wrap ((Nat.cast (R := Int) k) + 1))), RV.d (DV.int Go.IntKind.i64 (Nat.cast (R := Int) (k + 1))))] rfl (by kernel_rfl : runSegA (cfB (ts3 N)) 1000 0 _ _ _ _ (sy2 l (m : Int) (i : Int) (j : Int)) = some (stackAt syC 2, sy2 l (m : Int) (Nat.cast (R := Int) (k + 1)) (Nat.cast (R := Int) j), _, _)) (by refine ⟨?_, ?_, ?_, ?_, ?_, ?_, ?_, ?_, ?_, trivial⟩ <;> (first | rfl | exact bx1 | exact bx2 | exact bx3 | exact by1 | exact by2 | exact by3 | exact isC_chD hxo | exact isC_chD hyo)) (by refine ⟨?_, ?_, ?_, ?_, ?_, le_bool h103, ?_, trivial⟩ <;> (first | exact le_bool (decide_eq_true (by omega)) | exact ov_half (by omega) (by omega) | exact bx4 | exact by4 | exact ov_C y x | exact ov_succ (by omega))) ?_
      first | exact hlo (by simpa using h103) | exact hhi (by simpa using h103)
    · skip
      refine WK.segA ok 1000 0 [(85, RV.d (DV.bool true)), (91, RV.d (DV.int Go.IntKind.i64 (Nat.cast (R := Int) k))), (96, RV.d (DV.agg [DV.str y.1, DV.lst 3 (List.map vD y.2) false, DV.lst 3 (List.map vD y.3) false, DV.lst 3 (List.map vD y.4) false])), (100, RV.d (DV.agg [DV.str x.1, DV.lst 3 (List.map vD x.2) false, DV.lst 3 (List.map vD x.3) false, DV.lst 3 (List.map vD x.4) false])), (101, RV.d (DV.int Go.IntKind.i64 (Plain.cmpC y x))), (105, RV.d (DV.int Go.IntKind.i64 (Nat.cast (R := Int) (k + 1)))), (103, RV.d (DV.bool false))] [] [0, 2, 4, 14, 15] [true, decide (0 ≤ (Nat.cast (R := Int) m) ∧ (Nat.cast (R := Int) m) < (Nat.cast (R := Int) l.length)), decide ((Nat.cast (R := Int) m).toNat < l.length), Nat.ble 4 (l.getD (Nat.cast (R := Int) m).toNat DV.nilp).cells.length, decide (0 ≤ (Nat.cast (R := Int) k) ∧ (Nat.cast (R := Int) k) < (Nat.cast (R := Int) l.length)), decide ((Nat.cast (R := Int) k).toNat < l.length), Nat.ble 4 (l.getD (Nat.cast (R := Int) k).toNat DV.nilp).cells.length, isC (DV.agg [DV.str y.1, DV.lst 3 (List.map vD y.2) false, DV.lst 3 (List.map vD y.3) false, DV.lst 3 (List.map vD y.4) false]), isC (DV.agg [DV.str x.1, DV.lst 3 (List.map vD x.2) false, DV.lst 3 (List.map vD x.3) false, DV.lst 3 (List.map vD x.4) false])] [(RV.d (DV.bool (decide ((Nat.cast (R := Int) i) < (Nat.cast (R := Int) j)))), RV.d (DV.bool true)), (RV.d (DV.int Go.IntKind.i64 (Go.IntKind.i64.wrap ((Go.IntKind.u64.wrap (Go.IntKind.i64.wrap ((Nat.cast (R := Int) i) + (Nat.cast (R := Int) j)))).fdiv (2)))), RV.d (DV.int Go.IntKind.i64 (Nat.cast (R := Int) k))), (RV.d (DV.agg (List.take 4 (List.drop 0 (l.getD (Nat.cast (R := Int) m).toNat DV.nilp).cells))), RV.d (DV.agg [DV.str y.1, DV.lst 3 (List.map vD y.2) false, DV.lst 3 (List.map vD y.3) false, DV.lst 3 (List.map vD y.4) false])), (RV.d (DV.agg (List.take 4 (List.drop 0 (l.getD (Nat.cast (R := Int) k).toNat DV.nilp).cells))), RV.d (DV.agg [DV.str x.1, DV.lst 3 (List.map vD x.2) false, DV.lst 3 (List.map vD x.3) false, DV.lst 3 (List.map vD x.4) false])), (RV.d (DV.int Go.IntKind.i64 (Plain.cmpC { t := y.1, k := List.map toVal (List.map vD y.k), o := List.map toVal (List.map vD y.o), n := List.map toVal (List.map vD y.n) } { t := x.1, k := List.map toVal (List.map vD x.k), o := List.map toVal (List.map vD x.o), n := List.map toVal (List.map vD x.n) })), RV.d (DV.int Go.IntKind.i64 (Plain.cmpC y x))), (RV.d (DV.bool !decide (Plain.cmpC y x < 0)), RV.d (DV.bool false))] rfl (by kernel_rfl : runSegA (cfB (ts3 N)) 1000 0 _ _ _ _ (sy2 l (m : Int) (i : Int) (j : Int)) = some (stackAt syC 2, sy2 l (m : Int) (Nat.cast (R := Int) i) (Nat.cast (R := Int) k), _, _)) (by refine ⟨?_, ?_, ?_, ?_, ?_, ?_, ?_, ?_, ?_, trivial⟩ <;> (first | rfl | exact bx1 | exact bx2 | exact bx3 | exact by1 | exact by2 | exact by3 | exact isC_chD hxo | exact isC_chD hyo)) (by refine ⟨?_, ?_, ?_, ?_, ?_, le_bool h103, trivial⟩ <;> (first | exact le_bool (decide_eq_true (by omega)) | exact ov_half (by omega) (by omega) | exact bx4 | exact by4 | exact ov_C y x | exact ov_succ (by omega))) ?_
      first | exact hlo (by simpa using h103) | exact hhi (by simpa using h103)
  · have e : t = u := by omega
    subst e
    have hmm := Srt.one_r_at preC hs h3 h4
    have hd := hdn t h2
    rw [hi] at hd
    have eT : (A ++ (X.take t ++ y :: (X.drop t ++ B))).map chD = T := by
      rw [← hT, hmm]
      simp
    rw [eT] at hd
    obtain ⟨l, hl⟩ : ∃ l, (A ++ (X ++ y :: B)).map chD = l := ⟨_, rfl⟩
    rw [hl] at hd ⊢
    have hj' : j = i := by omega
    refine WK.segA ok 1000 0 [(85, RV.d (DV.bool false))] [] [0, 14, 17] [] [(RV.d (DV.bool (decide ((Nat.cast (R := Int) i) < (Nat.cast (R := Int) j)))), RV.d (DV.bool false))] rfl (by kernel_rfl : runSegA (cfB (ts3 N)) 1000 0 _ _ _ _ (sy2 l (m : Int) (i : Int) (j : Int)) = some (stackAt syC 3, sy2d l (i : Int) (m : Int), _, _)) trivial ⟨(by first | exact le_bool (decide_eq_false (by omega))), trivial⟩ ?_
    exact hd
end Go.Proofs.Ytljfolepmkcjlaa

/-
  The end of the symmetric merge, run.
-/
namespace Go.Proofs.Ytljfolepmkcjlaa
open Go.RowKit Plain Am IntWalk
set_option maxRecDepth 100000
set_option linter.unusedVariables false
set_option linter.unusedSimpArgs false

set_option maxHeartbeats 4000000 in
/-- behind the search: the parts are exchanged, and each half is merged -/
theorem sy_end {N : Nat} (hent : EntsOk Try.prog (ts3 N)) (l L1 L2 L3 : List DV) (a i j m e h b n p : Nat)
    (ai : a ≤ i) (im : i ≤ m) (me : m ≤ e) (eb : e ≤ b) (ih : i ≤ h) (he : h ≤ e) (ah : a < h) (hb : h < b) (hn : i + e = n) (hn2 : h + m = n) (hij : j ≤ i) (hbl : b ≤ l.length) (hll : l.length ≤ 65536)
    (k0 : l.all isC = true) (k1 : L1.all isC = true) (k2 : L2.all isC = true) (n1 : L1.length = l.length) (n2 : L2.length = l.length)
    (hR : rotL l i m e = L1) (hF : symL L1 a i h = L2) (hS : symL L2 h e b = L3) (R0 : i = m ∨ m = e → l = L1) (F0 : a = i ∨ i = h → L1 = L2) (S0 : h = e ∨ e = b → L2 = L3)
    (s1 : srtP L1 a i = true) (s2 : srtP L1 i h = true) (s3 : srtP L2 h e = true) (s4 : srtP L2 e b = true) (hN1 : h < N + a) (hN2 : b < N + h) :
    WK Try.prog 1 (stackAt syC 4) (sy3 l (a : Int) (m : Int) (b : Int) (h : Int) (n : Int) (i : Int) (j : Int) (p : Int)).den (EndsY L3) := by
  have ok := cfB_ok hent
  by_cases hy1 : m = e
  · have e1 := R0 (.inr hy1)
    subst e1
    have e2 := F0 (.inr (by omega))
    subst e2
    by_cases hx2 : i = m
    · have e3 := S0 (.inl (by omega))
      subst e3
      exact WK.fin ok 1000 0 [(151, RV.d (DV.bool false)), (177, RV.d (DV.int Go.IntKind.i64 (Nat.cast (R := Int) e))), (180, RV.d (DV.bool false)), (181, RV.d (DV.bool false)), (185, RV.d (DV.bool false)), (194, RV.d (DV.bool true)), (195, RV.d (DV.bool true)), (198, RV.d (DV.bool false)), (199, RV.d (DV.bool false)), (208, RV.d (DV.bool false)), (209, RV.d (DV.bool false)), (213, RV.d (DV.bool false))] [] [(RV.d (DV.bool (decide ((Nat.cast (R := Int) i) < (Nat.cast (R := Int) j)))), RV.d (DV.bool false)), (RV.d (DV.int Go.IntKind.i64 (Go.IntKind.i64.wrap ((Nat.cast (R := Int) n) - (Nat.cast (R := Int) i)))), RV.d (DV.int Go.IntKind.i64 (Nat.cast (R := Int) e))), (RV.d (DV.bool (decide ((Nat.cast (R := Int) i) < (Nat.cast (R := Int) m)))), RV.d (DV.bool false)), (RV.d (DV.bool false), RV.d (DV.bool false)), (RV.d (DV.bool false), RV.d (DV.bool false)), (RV.d (DV.bool (decide ((Nat.cast (R := Int) a) < (Nat.cast (R := Int) i)))), RV.d (DV.bool true)), (RV.d (DV.bool true), RV.d (DV.bool true)), (RV.d (DV.bool (decide ((Nat.cast (R := Int) i) < (Nat.cast (R := Int) h)))), RV.d (DV.bool false)), (RV.d (DV.bool false), RV.d (DV.bool false)), (RV.d (DV.bool (decide ((Nat.cast (R := Int) h) < (Nat.cast (R := Int) e)))), RV.d (DV.bool false)), (RV.d (DV.bool false), RV.d (DV.bool false)), (RV.d (DV.bool false), RV.d (DV.bool false))] rfl (by kernel_rfl : runEnd (cfB (ts3 N)) false _ 1000 0 _ _ (sy3 l (a : Int) (m : Int) (b : Int) (h : Int) (n : Int) (i : Int) (j : Int) (p : Int)) = some (RV.tup [], [PObj.arr 46 4 l], _, _)) trivial (by refine ⟨?_, ?_, ?_, ?_, ?_, ?_, ?_, ?_, ?_, ?_, ?_, ?_, trivial⟩ <;> (first | exact le_bool rfl | exact le_bool (decide_eq_true (by omega)) | exact le_bool (decide_eq_false (by omega)) | exact ov_sub (by omega) (by omega))) ⟨rfl, by first | rfl | (simp only [Int.toNat_natCast, hR, hF, hS]; rfl)⟩
    · by_cases hy2 : e = b
      · have e3 := S0 (.inr hy2)
        subst e3
        exact WK.fin ok 1000 0 [(151, RV.d (DV.bool false)), (177, RV.d (DV.int Go.IntKind.i64 (Nat.cast (R := Int) e))), (180, RV.d (DV.bool true)), (181, RV.d (DV.bool true)), (184, RV.d (DV.bool false)), (185, RV.d (DV.bool false)), (194, RV.d (DV.bool true)), (195, RV.d (DV.bool true)), (198, RV.d (DV.bool false)), (199, RV.d (DV.bool false)), (208, RV.d (DV.bool true)), (209, RV.d (DV.bool true)), (212, RV.d (DV.bool false)), (213, RV.d (DV.bool false))] [] [(RV.d (DV.bool (decide ((Nat.cast (R := Int) i) < (Nat.cast (R := Int) j)))), RV.d (DV.bool false)), (RV.d (DV.int Go.IntKind.i64 (Go.IntKind.i64.wrap ((Nat.cast (R := Int) n) - (Nat.cast (R := Int) i)))), RV.d (DV.int Go.IntKind.i64 (Nat.cast (R := Int) e))), (RV.d (DV.bool (decide ((Nat.cast (R := Int) i) < (Nat.cast (R := Int) m)))), RV.d (DV.bool true)), (RV.d (DV.bool true), RV.d (DV.bool true)), (RV.d (DV.bool (decide ((Nat.cast (R := Int) m) < (Nat.cast (R := Int) e)))), RV.d (DV.bool false)), (RV.d (DV.bool false), RV.d (DV.bool false)), (RV.d (DV.bool (decide ((Nat.cast (R := Int) a) < (Nat.cast (R := Int) i)))), RV.d (DV.bool true)), (RV.d (DV.bool true), RV.d (DV.bool true)), (RV.d (DV.bool (decide ((Nat.cast (R := Int) i) < (Nat.cast (R := Int) h)))), RV.d (DV.bool false)), (RV.d (DV.bool false), RV.d (DV.bool false)), (RV.d (DV.bool (decide ((Nat.cast (R := Int) h) < (Nat.cast (R := Int) e)))), RV.d (DV.bool true)), (RV.d (DV.bool true), RV.d (DV.bool true)), (RV.d (DV.bool (decide ((Nat.cast (R := Int) e) < (Nat.cast (R := Int) b)))), RV.d (DV.bool false)), (RV.d (DV.bool false), RV.d (DV.bool false))] rfl (by kernel_rfl : runEnd (cfB (ts3 N)) false _ 1000 0 _ _ (sy3 l (a : Int) (m : Int) (b : Int) (h : Int) (n : Int) (i : Int) (j : Int) (p : Int)) = some (RV.tup [], [PObj.arr 46 4 l], _, _)) trivial (by refine ⟨?_, ?_, ?_, ?_, ?_, ?_, ?_, ?_, ?_, ?_, ?_, ?_, ?_, ?_, trivial⟩ <;> (first | exact le_bool rfl | exact le_bool (decide_eq_true (by omega)) | exact le_bool (decide_eq_false (by omega)) | exact ov_sub (by omega) (by omega))) ⟨rfl, by first | rfl | (simp only [Int.toNat_natCast, hR, hF, hS]; rfl)⟩
      · skip
        exact WK.fin ok 1000 0 [(151, RV.d (DV.bool false)), (177, RV.d (DV.int Go.IntKind.i64 (Nat.cast (R := Int) e))), (180, RV.d (DV.bool true)), (181, RV.d (DV.bool true)), (184, RV.d (DV.bool false)), (185, RV.d (DV.bool false)), (194, RV.d (DV.bool true)), (195, RV.d (DV.bool true)), (198, RV.d (DV.bool false)), (199, RV.d (DV.bool false)), (208, RV.d (DV.bool true)), (209, RV.d (DV.bool true)), (212, RV.d (DV.bool true)), (213, RV.d (DV.bool true))] [true, true, l.all isC, true, decide ((Nat.cast (R := Int) h) < (Nat.cast (R := Int) e)), decide ((Nat.cast (R := Int) e) < (Nat.cast (R := Int) b)), decide ((Nat.cast (R := Int) b) ≤ (Nat.cast (R := Int) l.length)), decide (l.length ≤ 65536), srtP l (Nat.cast (R := Int) h).toNat (Nat.cast (R := Int) e).toNat, srtP l (Nat.cast (R := Int) e).toNat (Nat.cast (R := Int) b).toNat, decide ((Nat.cast (R := Int) b) - (Nat.cast (R := Int) h) < (Nat.cast (R := Int) N))] [(RV.d (DV.bool (decide ((Nat.cast (R := Int) i) < (Nat.cast (R := Int) j)))), RV.d (DV.bool false)), (RV.d (DV.int Go.IntKind.i64 (Go.IntKind.i64.wrap ((Nat.cast (R := Int) n) - (Nat.cast (R := Int) i)))), RV.d (DV.int Go.IntKind.i64 (Nat.cast (R := Int) e))), (RV.d (DV.bool (decide ((Nat.cast (R := Int) i) < (Nat.cast (R := Int) m)))), RV.d (DV.bool true)), (RV.d (DV.bool true), RV.d (DV.bool true)), (RV.d (DV.bool (decide ((Nat.cast (R := Int) m) < (Nat.cast (R := Int) e)))), RV.d (DV.bool false)), (RV.d (DV.bool false), RV.d (DV.bool false)), (RV.d (DV.bool (decide ((Nat.cast (R := Int) a) < (Nat.cast (R := Int) i)))), RV.d (DV.bool true)), (RV.d (DV.bool true), RV.d (DV.bool true)), (RV.d (DV.bool (decide ((Nat.cast (R := Int) i) < (Nat.cast (R := Int) h)))), RV.d (DV.bool false)), (RV.d (DV.bool false), RV.d (DV.bool false)), (RV.d (DV.bool (decide ((Nat.cast (R := Int) h) < (Nat.cast (R := Int) e)))), RV.d (DV.bool true)), (RV.d (DV.bool true), RV.d (DV.bool true)), (RV.d (DV.bool (decide ((Nat.cast (R := Int) e) < (Nat.cast (R := Int) b)))), RV.d (DV.bool true)), (RV.d (DV.bool true), RV.d (DV.bool true))] rfl (by kernel_rfl : runEnd (cfB (ts3 N)) false _ 1000 0 _ _ (sy3 l (a : Int) (m : Int) (b : Int) (h : Int) (n : Int) (i : Int) (j : Int) (p : Int)) = some (RV.tup [], [PObj.arr 46 4 (symL l (Nat.cast (R := Int) h).toNat (Nat.cast (R := Int) e).toNat (Nat.cast (R := Int) b).toNat)], _, _)) (by refine ⟨?_, ?_, ?_, ?_, ?_, ?_, ?_, ?_, ?_, ?_, ?_, trivial⟩ <;> (first | rfl | assumption | exact decide_eq_true (by omega) | (simp only [Int.toNat_natCast, hR, hF]; first | assumption | exact decide_eq_true (by omega)))) (by refine ⟨?_, ?_, ?_, ?_, ?_, ?_, ?_, ?_, ?_, ?_, ?_, ?_, ?_, ?_, trivial⟩ <;> (first | exact le_bool rfl | exact le_bool (decide_eq_true (by omega)) | exact le_bool (decide_eq_false (by omega)) | exact ov_sub (by omega) (by omega))) ⟨rfl, by first | rfl | (simp only [Int.toNat_natCast, hR, hF, hS]; rfl)⟩
  · by_cases hx2 : i = m
    · have e1 := R0 (.inl hx2)
      subst e1
      by_cases hx1 : a = i
      · have e2 := F0 (.inl hx1)
        subst e2
        have e3 := S0 (.inl (by omega))
        subst e3
        exact WK.fin ok 1000 0 [(151, RV.d (DV.bool false)), (177, RV.d (DV.int Go.IntKind.i64 (Nat.cast (R := Int) e))), (180, RV.d (DV.bool false)), (181, RV.d (DV.bool false)), (185, RV.d (DV.bool false)), (194, RV.d (DV.bool false)), (195, RV.d (DV.bool false)), (199, RV.d (DV.bool false)), (208, RV.d (DV.bool false)), (209, RV.d (DV.bool false)), (213, RV.d (DV.bool false))] [] [(RV.d (DV.bool (decide ((Nat.cast (R := Int) i) < (Nat.cast (R := Int) j)))), RV.d (DV.bool false)), (RV.d (DV.int Go.IntKind.i64 (Go.IntKind.i64.wrap ((Nat.cast (R := Int) n) - (Nat.cast (R := Int) i)))), RV.d (DV.int Go.IntKind.i64 (Nat.cast (R := Int) e))), (RV.d (DV.bool (decide ((Nat.cast (R := Int) i) < (Nat.cast (R := Int) m)))), RV.d (DV.bool false)), (RV.d (DV.bool false), RV.d (DV.bool false)), (RV.d (DV.bool false), RV.d (DV.bool false)), (RV.d (DV.bool (decide ((Nat.cast (R := Int) a) < (Nat.cast (R := Int) i)))), RV.d (DV.bool false)), (RV.d (DV.bool false), RV.d (DV.bool false)), (RV.d (DV.bool false), RV.d (DV.bool false)), (RV.d (DV.bool (decide ((Nat.cast (R := Int) h) < (Nat.cast (R := Int) e)))), RV.d (DV.bool false)), (RV.d (DV.bool false), RV.d (DV.bool false)), (RV.d (DV.bool false), RV.d (DV.bool false))] rfl (by kernel_rfl : runEnd (cfB (ts3 N)) false _ 1000 0 _ _ (sy3 l (a : Int) (m : Int) (b : Int) (h : Int) (n : Int) (i : Int) (j : Int) (p : Int)) = some (RV.tup [], [PObj.arr 46 4 l], _, _)) trivial (by refine ⟨?_, ?_, ?_, ?_, ?_, ?_, ?_, ?_, ?_, ?_, ?_, trivial⟩ <;> (first | exact le_bool rfl | exact le_bool (decide_eq_true (by omega)) | exact le_bool (decide_eq_false (by omega)) | exact ov_sub (by omega) (by omega))) ⟨rfl, by first | rfl | (simp only [Int.toNat_natCast, hR, hF, hS]; rfl)⟩
      · have e3 := S0 (.inl (by omega))
        subst e3
        exact WK.fin ok 1000 0 [(151, RV.d (DV.bool false)), (177, RV.d (DV.int Go.IntKind.i64 (Nat.cast (R := Int) e))), (180, RV.d (DV.bool false)), (181, RV.d (DV.bool false)), (185, RV.d (DV.bool false)), (194, RV.d (DV.bool true)), (195, RV.d (DV.bool true)), (198, RV.d (DV.bool true)), (199, RV.d (DV.bool true)), (208, RV.d (DV.bool false)), (209, RV.d (DV.bool false)), (213, RV.d (DV.bool false))] [true, true, l.all isC, true, decide ((Nat.cast (R := Int) a) < (Nat.cast (R := Int) i)), decide ((Nat.cast (R := Int) i) < (Nat.cast (R := Int) h)), decide ((Nat.cast (R := Int) h) ≤ (Nat.cast (R := Int) l.length)), decide (l.length ≤ 65536), srtP l (Nat.cast (R := Int) a).toNat (Nat.cast (R := Int) i).toNat, srtP l (Nat.cast (R := Int) i).toNat (Nat.cast (R := Int) h).toNat, decide ((Nat.cast (R := Int) h) - (Nat.cast (R := Int) a) < (Nat.cast (R := Int) N))] [(RV.d (DV.bool (decide ((Nat.cast (R := Int) i) < (Nat.cast (R := Int) j)))), RV.d (DV.bool false)), (RV.d (DV.int Go.IntKind.i64 (Go.IntKind.i64.wrap ((Nat.cast (R := Int) n) - (Nat.cast (R := Int) i)))), RV.d (DV.int Go.IntKind.i64 (Nat.cast (R := Int) e))), (RV.d (DV.bool (decide ((Nat.cast (R := Int) i) < (Nat.cast (R := Int) m)))), RV.d (DV.bool false)), (RV.d (DV.bool false), RV.d (DV.bool false)), (RV.d (DV.bool false), RV.d (DV.bool false)), (RV.d (DV.bool (decide ((Nat.cast (R := Int) a) < (Nat.cast (R := Int) i)))), RV.d (DV.bool true)), (RV.d (DV.bool true), RV.d (DV.bool true)), (RV.d (DV.bool (decide ((Nat.cast (R := Int) i) < (Nat.cast (R := Int) h)))), RV.d (DV.bool true)), (RV.d (DV.bool true), RV.d (DV.bool true)), (RV.d (DV.bool (decide ((Nat.cast (R := Int) h) < (Nat.cast (R := Int) e)))), RV.d (DV.bool false)), (RV.d (DV.bool false), RV.d (DV.bool false)), (RV.d (DV.bool false), RV.d (DV.bool false))] rfl (by kernel_rfl : runEnd (cfB (ts3 N)) false _ 1000 0 _ _ (sy3 l (a : Int) (m : Int) (b : Int) (h : Int) (n : Int) (i : Int) (j : Int) (p : Int)) = some (RV.tup [], [PObj.arr 46 4 (symL l (Nat.cast (R := Int) a).toNat (Nat.cast (R := Int) i).toNat (Nat.cast (R := Int) h).toNat)], _, _)) (by refine ⟨?_, ?_, ?_, ?_, ?_, ?_, ?_, ?_, ?_, ?_, ?_, trivial⟩ <;> (first | rfl | assumption | exact decide_eq_true (by omega) | (simp only [Int.toNat_natCast, hR, hF]; first | assumption | exact decide_eq_true (by omega)))) (by refine ⟨?_, ?_, ?_, ?_, ?_, ?_, ?_, ?_, ?_, ?_, ?_, ?_, trivial⟩ <;> (first | exact le_bool rfl | exact le_bool (decide_eq_true (by omega)) | exact le_bool (decide_eq_false (by omega)) | exact ov_sub (by omega) (by omega))) ⟨rfl, by first | rfl | (simp only [Int.toNat_natCast, hR, hF, hS]; rfl)⟩
    · by_cases hx1 : a = i
      · have e2 := F0 (.inl hx1)
        subst e2
        by_cases hy2 : e = b
        · have e3 := S0 (.inr hy2)
          subst e3
          exact WK.fin ok 1000 0 [(151, RV.d (DV.bool false)), (177, RV.d (DV.int Go.IntKind.i64 (Nat.cast (R := Int) e))), (180, RV.d (DV.bool true)), (181, RV.d (DV.bool true)), (184, RV.d (DV.bool true)), (185, RV.d (DV.bool true)), (194, RV.d (DV.bool false)), (195, RV.d (DV.bool false)), (199, RV.d (DV.bool false)), (208, RV.d (DV.bool true)), (209, RV.d (DV.bool true)), (212, RV.d (DV.bool false)), (213, RV.d (DV.bool false))] [true, true, l.all isC, true, decide ((Nat.cast (R := Int) i) < (Nat.cast (R := Int) m)), decide ((Nat.cast (R := Int) m) < (Nat.cast (R := Int) e)), decide ((Nat.cast (R := Int) e) ≤ (Nat.cast (R := Int) l.length)), decide (l.length ≤ 65536)] [(RV.d (DV.bool (decide ((Nat.cast (R := Int) i) < (Nat.cast (R := Int) j)))), RV.d (DV.bool false)), (RV.d (DV.int Go.IntKind.i64 (Go.IntKind.i64.wrap ((Nat.cast (R := Int) n) - (Nat.cast (R := Int) i)))), RV.d (DV.int Go.IntKind.i64 (Nat.cast (R := Int) e))), (RV.d (DV.bool (decide ((Nat.cast (R := Int) i) < (Nat.cast (R := Int) m)))), RV.d (DV.bool true)), (RV.d (DV.bool true), RV.d (DV.bool true)), (RV.d (DV.bool (decide ((Nat.cast (R := Int) m) < (Nat.cast (R := Int) e)))), RV.d (DV.bool true)), (RV.d (DV.bool true), RV.d (DV.bool true)), (RV.d (DV.bool (decide ((Nat.cast (R := Int) a) < (Nat.cast (R := Int) i)))), RV.d (DV.bool false)), (RV.d (DV.bool false), RV.d (DV.bool false)), (RV.d (DV.bool false), RV.d (DV.bool false)), (RV.d (DV.bool (decide ((Nat.cast (R := Int) h) < (Nat.cast (R := Int) e)))), RV.d (DV.bool true)), (RV.d (DV.bool true), RV.d (DV.bool true)), (RV.d (DV.bool (decide ((Nat.cast (R := Int) e) < (Nat.cast (R := Int) b)))), RV.d (DV.bool false)), (RV.d (DV.bool false), RV.d (DV.bool false))] rfl (by kernel_rfl : runEnd (cfB (ts3 N)) false _ 1000 0 _ _ (sy3 l (a : Int) (m : Int) (b : Int) (h : Int) (n : Int) (i : Int) (j : Int) (p : Int)) = some (RV.tup [], [PObj.arr 46 4 (rotL l (Nat.cast (R := Int) i).toNat (Nat.cast (R := Int) m).toNat (Nat.cast (R := Int) e).toNat)], _, _)) (by refine ⟨?_, ?_, ?_, ?_, ?_, ?_, ?_, ?_, trivial⟩ <;> (first | rfl | assumption | exact decide_eq_true (by omega) | (simp only [Int.toNat_natCast, hR, hF]; first | assumption | exact decide_eq_true (by omega)))) (by refine ⟨?_, ?_, ?_, ?_, ?_, ?_, ?_, ?_, ?_, ?_, ?_, ?_, ?_, trivial⟩ <;> (first | exact le_bool rfl | exact le_bool (decide_eq_true (by omega)) | exact le_bool (decide_eq_false (by omega)) | exact ov_sub (by omega) (by omega))) ⟨rfl, by first | rfl | (simp only [Int.toNat_natCast, hR, hF, hS]; rfl)⟩
        · skip
          exact WK.fin ok 1000 0 [(151, RV.d (DV.bool false)), (177, RV.d (DV.int Go.IntKind.i64 (Nat.cast (R := Int) e))), (180, RV.d (DV.bool true)), (181, RV.d (DV.bool true)), (184, RV.d (DV.bool true)), (185, RV.d (DV.bool true)), (194, RV.d (DV.bool false)), (195, RV.d (DV.bool false)), (199, RV.d (DV.bool false)), (208, RV.d (DV.bool true)), (209, RV.d (DV.bool true)), (212, RV.d (DV.bool true)), (213, RV.d (DV.bool true))] [true, true, l.all isC, true, decide ((Nat.cast (R := Int) i) < (Nat.cast (R := Int) m)), decide ((Nat.cast (R := Int) m) < (Nat.cast (R := Int) e)), decide ((Nat.cast (R := Int) e) ≤ (Nat.cast (R := Int) l.length)), decide (l.length ≤ 65536), true, true, (rotL l (Nat.cast (R := Int) i).toNat (Nat.cast (R := Int) m).toNat (Nat.cast (R := Int) e).toNat).all isC, true, decide ((Nat.cast (R := Int) h) < (Nat.cast (R := Int) e)), decide ((Nat.cast (R := Int) e) < (Nat.cast (R := Int) b)), decide ((Nat.cast (R := Int) b) ≤ (Nat.cast (R := Int) (rotL l (Nat.cast (R := Int) i).toNat (Nat.cast (R := Int) m).toNat (Nat.cast (R := Int) e).toNat).length)), decide ((rotL l (Nat.cast (R := Int) i).toNat (Nat.cast (R := Int) m).toNat (Nat.cast (R := Int) e).toNat).length ≤ 65536), srtP (rotL l (Nat.cast (R := Int) i).toNat (Nat.cast (R := Int) m).toNat (Nat.cast (R := Int) e).toNat) (Nat.cast (R := Int) h).toNat (Nat.cast (R := Int) e).toNat, srtP (rotL l (Nat.cast (R := Int) i).toNat (Nat.cast (R := Int) m).toNat (Nat.cast (R := Int) e).toNat) (Nat.cast (R := Int) e).toNat (Nat.cast (R := Int) b).toNat, decide ((Nat.cast (R := Int) b) - (Nat.cast (R := Int) h) < (Nat.cast (R := Int) N))] [(RV.d (DV.bool (decide ((Nat.cast (R := Int) i) < (Nat.cast (R := Int) j)))), RV.d (DV.bool false)), (RV.d (DV.int Go.IntKind.i64 (Go.IntKind.i64.wrap ((Nat.cast (R := Int) n) - (Nat.cast (R := Int) i)))), RV.d (DV.int Go.IntKind.i64 (Nat.cast (R := Int) e))), (RV.d (DV.bool (decide ((Nat.cast (R := Int) i) < (Nat.cast (R := Int) m)))), RV.d (DV.bool true)), (RV.d (DV.bool true), RV.d (DV.bool true)), (RV.d (DV.bool (decide ((Nat.cast (R := Int) m) < (Nat.cast (R := Int) e)))), RV.d (DV.bool true)), (RV.d (DV.bool true), RV.d (DV.bool true)), (RV.d (DV.bool (decide ((Nat.cast (R := Int) a) < (Nat.cast (R := Int) i)))), RV.d (DV.bool false)), (RV.d (DV.bool false), RV.d (DV.bool false)), (RV.d (DV.bool false), RV.d (DV.bool false)), (RV.d (DV.bool (decide ((Nat.cast (R := Int) h) < (Nat.cast (R := Int) e)))), RV.d (DV.bool true)), (RV.d (DV.bool true), RV.d (DV.bool true)), (RV.d (DV.bool (decide ((Nat.cast (R := Int) e) < (Nat.cast (R := Int) b)))), RV.d (DV.bool true)), (RV.d (DV.bool true), RV.d (DV.bool true))] rfl (by kernel_rfl : runEnd (cfB (ts3 N)) false _ 1000 0 _ _ (sy3 l (a : Int) (m : Int) (b : Int) (h : Int) (n : Int) (i : Int) (j : Int) (p : Int)) = some (RV.tup [], [PObj.arr 46 4 (symL (rotL l (Nat.cast (R := Int) i).toNat (Nat.cast (R := Int) m).toNat (Nat.cast (R := Int) e).toNat) (Nat.cast (R := Int) h).toNat (Nat.cast (R := Int) e).toNat (Nat.cast (R := Int) b).toNat)], _, _)) (by refine ⟨?_, ?_, ?_, ?_, ?_, ?_, ?_, ?_, ?_, ?_, ?_, ?_, ?_, ?_, ?_, ?_, ?_, ?_, ?_, trivial⟩ <;> (first | rfl | assumption | exact decide_eq_true (by omega) | (simp only [Int.toNat_natCast, hR, hF]; first | assumption | exact decide_eq_true (by omega)))) (by refine ⟨?_, ?_, ?_, ?_, ?_, ?_, ?_, ?_, ?_, ?_, ?_, ?_, ?_, trivial⟩ <;> (first | exact le_bool rfl | exact le_bool (decide_eq_true (by omega)) | exact le_bool (decide_eq_false (by omega)) | exact ov_sub (by omega) (by omega))) ⟨rfl, by first | rfl | (simp only [Int.toNat_natCast, hR, hF, hS]; rfl)⟩
      · by_cases hy2 : e = b
        · have e3 := S0 (.inr hy2)
          subst e3
          exact WK.fin ok 1000 0 [(151, RV.d (DV.bool false)), (177, RV.d (DV.int Go.IntKind.i64 (Nat.cast (R := Int) e))), (180, RV.d (DV.bool true)), (181, RV.d (DV.bool true)), (184, RV.d (DV.bool true)), (185, RV.d (DV.bool true)), (194, RV.d (DV.bool true)), (195, RV.d (DV.bool true)), (198, RV.d (DV.bool true)), (199, RV.d (DV.bool true)), (208, RV.d (DV.bool true)), (209, RV.d (DV.bool true)), (212, RV.d (DV.bool false)), (213, RV.d (DV.bool false))] [true, true, l.all isC, true, decide ((Nat.cast (R := Int) i) < (Nat.cast (R := Int) m)), decide ((Nat.cast (R := Int) m) < (Nat.cast (R := Int) e)), decide ((Nat.cast (R := Int) e) ≤ (Nat.cast (R := Int) l.length)), decide (l.length ≤ 65536), true, true, (rotL l (Nat.cast (R := Int) i).toNat (Nat.cast (R := Int) m).toNat (Nat.cast (R := Int) e).toNat).all isC, true, decide ((Nat.cast (R := Int) a) < (Nat.cast (R := Int) i)), decide ((Nat.cast (R := Int) i) < (Nat.cast (R := Int) h)), decide ((Nat.cast (R := Int) h) ≤ (Nat.cast (R := Int) (rotL l (Nat.cast (R := Int) i).toNat (Nat.cast (R := Int) m).toNat (Nat.cast (R := Int) e).toNat).length)), decide ((rotL l (Nat.cast (R := Int) i).toNat (Nat.cast (R := Int) m).toNat (Nat.cast (R := Int) e).toNat).length ≤ 65536), srtP (rotL l (Nat.cast (R := Int) i).toNat (Nat.cast (R := Int) m).toNat (Nat.cast (R := Int) e).toNat) (Nat.cast (R := Int) a).toNat (Nat.cast (R := Int) i).toNat, srtP (rotL l (Nat.cast (R := Int) i).toNat (Nat.cast (R := Int) m).toNat (Nat.cast (R := Int) e).toNat) (Nat.cast (R := Int) i).toNat (Nat.cast (R := Int) h).toNat, decide ((Nat.cast (R := Int) h) - (Nat.cast (R := Int) a) < (Nat.cast (R := Int) N))] [(RV.d (DV.bool (decide ((Nat.cast (R := Int) i) < (Nat.cast (R := Int) j)))), RV.d (DV.bool false)), (RV.d (DV.int Go.IntKind.i64 (Go.IntKind.i64.wrap ((Nat.cast (R := Int) n) - (Nat.cast (R := Int) i)))), RV.d (DV.int Go.IntKind.i64 (Nat.cast (R := Int) e))), (RV.d (DV.bool (decide ((Nat.cast (R := Int) i) < (Nat.cast (R := Int) m)))), RV.d (DV.bool true)), (RV.d (DV.bool true), RV.d (DV.bool true)), (RV.d (DV.bool (decide ((Nat.cast (R := Int) m) < (Nat.cast (R := Int) e)))), RV.d (DV.bool true)), (RV.d (DV.bool true), RV.d (DV.bool true)), (RV.d (DV.bool (decide ((Nat.cast (R := Int) a) < (Nat.cast (R := Int) i)))), RV.d (DV.bool true)), (RV.d (DV.bool true), RV.d (DV.bool true)), (RV.d (DV.bool (decide ((Nat.cast (R := Int) i) < (Nat.cast (R := Int) h)))), RV.d (DV.bool true)), (RV.d (DV.bool true), RV.d (DV.bool true)), (RV.d (DV.bool (decide ((Nat.cast (R := Int) h) < (Nat.cast (R := Int) e)))), RV.d (DV.bool true)), (RV.d (DV.bool true), RV.d (DV.bool true)), (RV.d (DV.bool (decide ((Nat.cast (R := Int) e) < (Nat.cast (R := Int) b)))), RV.d (DV.bool false)), (RV.d (DV.bool false), RV.d (DV.bool false))] rfl (by kernel_rfl : runEnd (cfB (ts3 N)) false _ 1000 0 _ _ (sy3 l (a : Int) (m : Int) (b : Int) (h : Int) (n : Int) (i : Int) (j : Int) (p : Int)) = some (RV.tup [], [PObj.arr 46 4 (symL (rotL l (Nat.cast (R := Int) i).toNat (Nat.cast (R := Int) m).toNat (Nat.cast (R := Int) e).toNat) (Nat.cast (R := Int) a).toNat (Nat.cast (R := Int) i).toNat (Nat.cast (R := Int) h).toNat)], _, _)) (by refine ⟨?_, ?_, ?_, ?_, ?_, ?_, ?_, ?_, ?_, ?_, ?_, ?_, ?_, ?_, ?_, ?_, ?_, ?_, ?_, trivial⟩ <;> (first | rfl | assumption | exact decide_eq_true (by omega) | (simp only [Int.toNat_natCast, hR, hF]; first | assumption | exact decide_eq_true (by omega)))) (by refine ⟨?_, ?_, ?_, ?_, ?_, ?_, ?_, ?_, ?_, ?_, ?_, ?_, ?_, ?_, trivial⟩ <;> (first | exact le_bool rfl | exact le_bool (decide_eq_true (by omega)) | exact le_bool (decide_eq_false (by omega)) | exact ov_sub (by omega) (by omega))) ⟨rfl, by first | rfl | (simp only [Int.toNat_natCast, hR, hF, hS]; rfl)⟩
        · skip
          exact WK.fin ok 1000 0 [(151, RV.d (DV.bool false)), (177, RV.d (DV.int Go.IntKind.i64 (Nat.cast (R := Int) e))), (180, RV.d (DV.bool true)), (181, RV.d (DV.bool true)), (184, RV.d (DV.bool true)), (185, RV.d (DV.bool true)), (194, RV.d (DV.bool true)), (195, RV.d (DV.bool true)), (198, RV.d (DV.bool true)), (199, RV.d (DV.bool true)), (208, RV.d (DV.bool true)), (209, RV.d (DV.bool true)), (212, RV.d (DV.bool true)), (213, RV.d (DV.bool true))] [true, true, l.all isC, true, decide ((Nat.cast (R := Int) i) < (Nat.cast (R := Int) m)), decide ((Nat.cast (R := Int) m) < (Nat.cast (R := Int) e)), decide ((Nat.cast (R := Int) e) ≤ (Nat.cast (R := Int) l.length)), decide (l.length ≤ 65536), true, true, (rotL l (Nat.cast (R := Int) i).toNat (Nat.cast (R := Int) m).toNat (Nat.cast (R := Int) e).toNat).all isC, true, decide ((Nat.cast (R := Int) a) < (Nat.cast (R := Int) i)), decide ((Nat.cast (R := Int) i) < (Nat.cast (R := Int) h)), decide ((Nat.cast (R := Int) h) ≤ (Nat.cast (R := Int) (rotL l (Nat.cast (R := Int) i).toNat (Nat.cast (R := Int) m).toNat (Nat.cast (R := Int) e).toNat).length)), decide ((rotL l (Nat.cast (R := Int) i).toNat (Nat.cast (R := Int) m).toNat (Nat.cast (R := Int) e).toNat).length ≤ 65536), srtP (rotL l (Nat.cast (R := Int) i).toNat (Nat.cast (R := Int) m).toNat (Nat.cast (R := Int) e).toNat) (Nat.cast (R := Int) a).toNat (Nat.cast (R := Int) i).toNat, srtP (rotL l (Nat.cast (R := Int) i).toNat (Nat.cast (R := Int) m).toNat (Nat.cast (R := Int) e).toNat) (Nat.cast (R := Int) i).toNat (Nat.cast (R := Int) h).toNat, decide ((Nat.cast (R := Int) h) - (Nat.cast (R := Int) a) < (Nat.cast (R := Int) N)), true, true, (symL (rotL l (Nat.cast (R := Int) i).toNat (Nat.cast (R := Int) m).toNat (Nat.cast (R := Int) e).toNat) (Nat.cast (R := Int) a).toNat (Nat.cast (R := Int) i).toNat (Nat.cast (R := Int) h).toNat).all isC, true, decide ((Nat.cast (R := Int) h) < (Nat.cast (R := Int) e)), decide ((Nat.cast (R := Int) e) < (Nat.cast (R := Int) b)), decide ((Nat.cast (R := Int) b) ≤ (Nat.cast (R := Int) (symL (rotL l (Nat.cast (R := Int) i).toNat (Nat.cast (R := Int) m).toNat (Nat.cast (R := Int) e).toNat) (Nat.cast (R := Int) a).toNat (Nat.cast (R := Int) i).toNat (Nat.cast (R := Int) h).toNat).length)), decide ((symL (rotL l (Nat.cast (R := Int) i).toNat (Nat.cast (R := Int) m).toNat (Nat.cast (R := Int) e).toNat) (Nat.cast (R := Int) a).toNat (Nat.cast (R := Int) i).toNat (Nat.cast (R := Int) h).toNat).length ≤ 65536), srtP (symL (rotL l (Nat.cast (R := Int) i).toNat (Nat.cast (R := Int) m).toNat (Nat.cast (R := Int) e).toNat) (Nat.cast (R := Int) a).toNat (Nat.cast (R := Int) i).toNat (Nat.cast (R := Int) h).toNat) (Nat.cast (R := Int) h).toNat (Nat.cast (R := Int) e).toNat, srtP (symL (rotL l (Nat.cast (R := Int) i).toNat (Nat.cast (R := Int) m).toNat (Nat.cast (R := Int) e).toNat) (Nat.cast (R := Int) a).toNat (Nat.cast (R := Int) i).toNat (Nat.cast (R := Int) h).toNat) (Nat.cast (R := Int) e).toNat (Nat.cast (R := Int) b).toNat, decide ((Nat.cast (R := Int) b) - (Nat.cast (R := Int) h) < (Nat.cast (R := Int) N))] [(RV.d (DV.bool (decide ((Nat.cast (R := Int) i) < (Nat.cast (R := Int) j)))), RV.d (DV.bool false)), (RV.d (DV.int Go.IntKind.i64 (Go.IntKind.i64.wrap ((Nat.cast (R := Int) n) - (Nat.cast (R := Int) i)))), RV.d (DV.int Go.IntKind.i64 (Nat.cast (R := Int) e))), (RV.d (DV.bool (decide ((Nat.cast (R := Int) i) < (Nat.cast (R := Int) m)))), RV.d (DV.bool true)), (RV.d (DV.bool true), RV.d (DV.bool true)), (RV.d (DV.bool (decide ((Nat.cast (R := Int) m) < (Nat.cast (R := Int) e)))), RV.d (DV.bool true)), (RV.d (DV.bool true), RV.d (DV.bool true)), (RV.d (DV.bool (decide ((Nat.cast (R := Int) a) < (Nat.cast (R := Int) i)))), RV.d (DV.bool true)), (RV.d (DV.bool true), RV.d (DV.bool true)), (RV.d (DV.bool (decide ((Nat.cast (R := Int) i) < (Nat.cast (R := Int) h)))), RV.d (DV.bool true)), (RV.d (DV.bool true), RV.d (DV.bool true)), (RV.d (DV.bool (decide ((Nat.cast (R := Int) h) < (Nat.cast (R := Int) e)))), RV.d (DV.bool true)), (RV.d (DV.bool true), RV.d (DV.bool true)), (RV.d (DV.bool (decide ((Nat.cast (R := Int) e) < (Nat.cast (R := Int) b)))), RV.d (DV.bool true)), (RV.d (DV.bool true), RV.d (DV.bool true))] rfl (by kernel_rfl : runEnd (cfB (ts3 N)) false _ 1000 0 _ _ (sy3 l (a : Int) (m : Int) (b : Int) (h : Int) (n : Int) (i : Int) (j : Int) (p : Int)) = some (RV.tup [], [PObj.arr 46 4 (symL (symL (rotL l (Nat.cast (R := Int) i).toNat (Nat.cast (R := Int) m).toNat (Nat.cast (R := Int) e).toNat) (Nat.cast (R := Int) a).toNat (Nat.cast (R := Int) i).toNat (Nat.cast (R := Int) h).toNat) (Nat.cast (R := Int) h).toNat (Nat.cast (R := Int) e).toNat (Nat.cast (R := Int) b).toNat)], _, _)) (by refine ⟨?_, ?_, ?_, ?_, ?_, ?_, ?_, ?_, ?_, ?_, ?_, ?_, ?_, ?_, ?_, ?_, ?_, ?_, ?_, ?_, ?_, ?_, ?_, ?_, ?_, ?_, ?_, ?_, ?_, ?_, trivial⟩ <;> (first | rfl | assumption | exact decide_eq_true (by omega) | (simp only [Int.toNat_natCast, hR, hF]; first | assumption | exact decide_eq_true (by omega)))) (by refine ⟨?_, ?_, ?_, ?_, ?_, ?_, ?_, ?_, ?_, ?_, ?_, ?_, ?_, ?_, trivial⟩ <;> (first | exact le_bool rfl | exact le_bool (decide_eq_true (by omega)) | exact le_bool (decide_eq_false (by omega)) | exact ov_sub (by omega) (by omega))) ⟨rfl, by first | rfl | (simp only [Int.toNat_natCast, hR, hF, hS]; rfl)⟩
end Go.Proofs.Ytljfolepmkcjlaa

/-
  The search of the symmetric merge, run.
-/
namespace Go.Proofs.Ytljfolepmkcjlaa
open Go.RowKit Plain Am IntWalk
set_option maxRecDepth 100000
set_option linter.unusedVariables false
set_option linter.unusedSimpArgs false

theorem all_isC' {l : List Chg} (h : okL l) : (l.map chD).all isC = true := all_isC h.2
set_option maxHeartbeats 4000000 in
/-- behind the search, in parts -/
theorem sy_join {N : Nat} (hent : EntsOk Try.prog (ts3 N)) (A X1 X2 Y1 Y2 B : List Chg) (hok : okL (A ++ (X1 ++ (X2 ++ (Y1 ++ (Y2 ++ B)))))) (sX1 : Srt.srtB cmpC X1 = true) (sX2 : Srt.srtB cmpC X2 = true) (sY1 : Srt.srtB cmpC Y1 = true) (sY2 : Srt.srtB cmpC Y2 = true)
    (a i m e b h n p : Nat) (ha : A.length = a) (hi : a + X1.length = i) (hm : i + X2.length = m) (he : m + Y1.length = e) (hb : e + Y2.length = b) (hh : i + Y1.length = h) (hn : i + e = n) (h1 : a < h) (h2 : h < b) (hN1 : h < N + a) (hN2 : b < N + h) :
    WK Try.prog 1 (stackAt syC 4) (sy3 ((A ++ (X1 ++ (X2 ++ (Y1 ++ (Y2 ++ B))))).map chD) (a : Int) (m : Int) (b : Int) (h : Int) (n : Int) (i : Int) (i : Int) (p : Int)).den (EndsY ((A ++ ((Srt.mrg cmpC X1 Y1 ++ Srt.mrg cmpC X2 Y2) ++ B)).map chD)) := by
  have p1 : okL (A ++ (X1 ++ (Y1 ++ (X2 ++ (Y2 ++ B))))) := okL_perm hok ((List.Perm.append_left _ (List.Perm.append_left _ (by
    rw [← List.append_assoc, ← List.append_assoc X2]; exact (List.perm_append_comm).append_right _))))
  have p2 : okL (A ++ (Srt.mrg cmpC X1 Y1 ++ (X2 ++ (Y2 ++ B)))) := okL_perm p1 (List.Perm.append_left _ (by
    rw [← List.append_assoc X1]; exact (Srt.mrg_perm cmpC _ X1 Y1 (Nat.le_refl _)).append_right _))
  have ml := Srt.mrg_length cmpC X1 Y1
  have hlen : a + (X1.length + (X2.length + (Y1.length + (Y2.length + B.length)))) ≤ 65536 := by have := hok.1; simp only [List.length_append] at this; omega
  refine sy_end hent _ ((A ++ (X1 ++ (Y1 ++ (X2 ++ (Y2 ++ B))))).map chD) ((A ++ (Srt.mrg cmpC X1 Y1 ++ (X2 ++ (Y2 ++ B)))).map chD) _ a i i m e h b n p (by omega) (by omega) (by omega) (by omega) (by omega) (by omega) h1 h2 hn (by omega) (Nat.le_refl _)
    (by simp only [List.length_map, List.length_append]; omega) (by simp only [List.length_map, List.length_append]; omega) (all_isC' hok) (all_isC' p1) (all_isC' p2) (by simp only [List.length_map, List.length_append]; omega) (by simp only [List.length_map, List.length_append]; omega)
    (rotL_eq A X1 X2 Y1 _ (by omega) (by omega) (by omega)) (symL_eq A X1 Y1 _ (by omega) (by omega) (by omega)) ?_ ?_ ?_ ?_ ?_ ?_ ?_ ?_ hN1 hN2
  · have := symL_eq (A ++ Srt.mrg cmpC X1 Y1) X2 Y2 B (p := h) (m := e) (q := b) (by simp only [List.length_append]; omega) (by omega) (by omega)
    simpa using this
  · rintro (h | h)
    · rw [List.eq_nil_of_length_eq_zero (l := X2) (by omega)]; rfl
    · rw [List.eq_nil_of_length_eq_zero (l := Y1) (by omega)]; rfl
  · rintro (h | h)
    · rw [List.eq_nil_of_length_eq_zero (l := X1) (by omega), Srt.mrg_nil_l]; rfl
    · rw [List.eq_nil_of_length_eq_zero (l := Y1) (by omega), Srt.mrg_nil_r]; rfl
  · rintro (h | h)
    · rw [List.eq_nil_of_length_eq_zero (l := X2) (by omega), Srt.mrg_nil_l]; simp
    · rw [List.eq_nil_of_length_eq_zero (l := Y2) (by omega), Srt.mrg_nil_r]; simp
  · rw [srtP_eq A X1 _ (by omega) (by omega)]; exact sX1
  · have := srtP_eq (A ++ X1) Y1 (X2 ++ (Y2 ++ B)) (p := i) (m := h) (by simp only [List.length_append]; omega) (by omega)
    rw [List.append_assoc] at this
    rw [this]; exact sY1
  · have := srtP_eq (A ++ Srt.mrg cmpC X1 Y1) X2 (Y2 ++ B) (p := h) (m := e) (by simp only [List.length_append]; omega) (by omega)
    rw [List.append_assoc] at this
    rw [this]; exact sX2
  · have := srtP_eq (A ++ Srt.mrg cmpC X1 Y1 ++ X2) Y2 B (p := e) (m := b) (by simp only [List.length_append]; omega) (by omega)
    rw [List.append_assoc, List.append_assoc] at this
    rw [this]; exact sY2
set_option maxHeartbeats 4000000 in
theorem sy_find {N : Nat} (hent : EntsOk Try.prog (ts3 N)) (A X Y B : List Chg) (hx : 2 ≤ X.length) (hy : 2 ≤ Y.length) (hok : okL (A ++ (X ++ (Y ++ B)))) (sX : Srt.srtB cmpC X = true) (sY : Srt.srtB cmpC Y = true) (hN : X.length + Y.length ≤ N)
    (a m b h n p s0 r0 : Nat) (ha : A.length = a) (hm : a + X.length = m) (hb : m + Y.length = b) (hh : (a + b) / 2 = h) (hn : h + m = n) (hp : p + 1 = n) (hs : (h < m ∧ s0 + b = n ∧ r0 = h) ∨ (m ≤ h ∧ s0 = a ∧ r0 = m)) :
    WK Try.prog 1 (stackAt syC 4) (sy3 ((A ++ (X ++ (Y ++ B))).map chD) (a : Int) (m : Int) (b : Int) (h : Int) (n : Int) (s0 : Int) (r0 : Int) (p : Int)).den (EndsY ((A ++ (Srt.mrg cmpC X Y ++ B)).map chD)) := by
  have ok := cfB_ok hent
  obtain ⟨T, hT⟩ : ∃ T, (A ++ (Srt.mrg cmpC X Y ++ B)).map chD = T := ⟨_, rfl⟩
  have hlen : a + (X.length + (Y.length + B.length)) ≤ 65536 := by have := hok.1; simp only [List.length_append] at this; omega
  have gX : ∀ (k : Nat) (x : Chg), a ≤ k → X[k - a]? = some x → (A ++ (X ++ (Y ++ B)))[k]? = some x := fun k x hk h => by
    have hw := (List.getElem?_eq_some_iff.1 h).1
    rw [get_in _ _ _ (by omega) (by omega), ← h, ha]
  have gY : ∀ (k : Nat) (y : Chg), m ≤ k → Y[k - m]? = some y → (A ++ (X ++ (Y ++ B)))[k]? = some y := fun k y hk h => by
    have hw := (List.getElem?_eq_some_iff.1 h).1
    rw [show A ++ (X ++ (Y ++ B)) = (A ++ X) ++ (Y ++ B) by simp, get_in _ _ _ (by simp; omega) (by simp; omega), ← h]
    congr 1; simp; omega
  rw [hT]
  have key := WK.rec' (P := Try.prog) (m := 1) (k := stackAt syC 4) (Q := EndsY T) (fun (q : Nat × Nat) => sy3 ((A ++ (X ++ (Y ++ B))).map chD) (a : Int) (m : Int) (b : Int) (h : Int) (n : Int) (q.1 : Int) (q.2 : Int) (p : Int))
    (fun q => s0 ≤ q.1 ∧ q.1 ≤ q.2 ∧ q.2 ≤ r0 ∧ (q.1 = s0 ∨ ∃ x y, X[q.1 - 1 - a]? = some x ∧ Y[n - q.1 - m]? = some y ∧ ¬ cmpC y x < 0) ∧ (q.2 = r0 ∨ ∃ x y, X[q.2 - a]? = some x ∧ Y[p - q.2 - m]? = some y ∧ cmpC y x < 0)) (fun q => q.2 - q.1) ?_ (s0, r0) ⟨Nat.le_refl _, by simp only; omega, Nat.le_refl _, .inl rfl, .inl rfl⟩
  · exact key
  rintro ⟨i, j⟩ ⟨h1, h2, h3, h4, h5⟩ ih
  simp only at h1 h2 h3 h4 h5 ih ⊢
  by_cases hlt : i < j
  · obtain ⟨k, hk⟩ : ∃ k, (i + j) / 2 = k := ⟨_, rfl⟩
    obtain ⟨q, hq⟩ : ∃ q, p - k = q := ⟨_, rfl⟩
    have ix : k - a < X.length ∧ a ≤ k ∧ s0 ≤ k ∧ i ≤ k ∧ k < j := by clear h4 h5 ih; omega
    have iy : q - m < Y.length ∧ m ≤ q ∧ q + k = p := by clear h4 h5 ih; omega
    obtain ⟨ix1, ix2, ix3, ix4, ix5⟩ := ix
    obtain ⟨iy1, iy2, iy3⟩ := iy
    have hn1 : n - (k + 1) - m = q - m := by clear h4 h5 ih; omega
    obtain ⟨x, hx'⟩ : ∃ x, X[k - a]'ix1 = x := ⟨_, rfl⟩
    obtain ⟨y, hy'⟩ : ∃ y, Y[q - m]'iy1 = y := ⟨_, rfl⟩
    have hxw : X[k - a]? = some x := by rw [List.getElem?_eq_getElem ix1, hx']
    have hyw : Y[q - m]? = some y := by rw [List.getElem?_eq_getElem iy1, hy']
    have gx := gX k x ix2 hxw
    have gy := gY q y iy2 hyw
    have hxo : Chg.ok x := hok.2 x (by have := List.mem_of_getElem? hxw; simp [this])
    have hyo : Chg.ok y := hok.2 y (by have := List.mem_of_getElem? hyw; simp [this])
    have hlo : ¬ cmpC y x < 0 → _ := fun h => ih (k + 1, j) ⟨Nat.le_trans ix3 (Nat.le_succ k), ix5, h3, .inr ⟨x, y, by simp only [Nat.add_sub_cancel]; exact hxw, by simp only; rw [hn1]; exact hyw, h⟩, h5⟩ (by clear h4 h5 ih; simp only; omega)
    have hhi : cmpC y x < 0 → _ := fun h => ih (i, k) ⟨h1, ix4, by clear h4 h5 ih; simp only; omega, h4, .inr ⟨x, y, hxw, by simp only; rw [hq]; exact hyw, h⟩⟩ (by clear h4 h5 ih; simp only; omega)
    simp only at hlo hhi
    clear h4 h5 ih
    generalize A ++ (X ++ (Y ++ B)) = L at *
    have hlk := lt_of_some gy
    have hml : (L.map chD).length = L.length := List.length_map ..
    obtain ⟨l, hl⟩ : ∃ l, L.map chD = l := ⟨_, rfl⟩
    have bx1 := bd_in gx
    have bx2 := bd_in2 gx
    have bx3 := bd_ble gx
    have bx4 := ov_load gx
    have by1 := bd_in gy
    have by2 := bd_in2 gy
    have by3 := bd_ble gy
    have by4 := ov_load gy
    rw [hl] at hlo hhi bx1 bx2 bx3 bx4 by1 by2 by3 by4 ⊢
    rcases Bool.eq_false_or_eq_true (!decide (Plain.cmpC y x < 0) : Bool) with h171 | h171
    · skip
      refine WK.segA ok 1000 0 [(151, RV.d (DV.bool true)), (157, RV.d (DV.int Go.IntKind.i64 (Nat.cast (R := Int) k))), (162, RV.d (DV.int Go.IntKind.i64 (Nat.cast (R := Int) q))), (164, RV.d (DV.agg [DV.str y.1, DV.lst 3 (List.map vD y.2) false, DV.lst 3 (List.map vD y.3) false, DV.lst 3 (List.map vD y.4) false])), (168, RV.d (DV.agg [DV.str x.1, DV.lst 3 (List.map vD x.2) false, DV.lst 3 (List.map vD x.3) false, DV.lst 3 (List.map vD x.4) false])), (169, RV.d (DV.int Go.IntKind.i64 (Plain.cmpC y x))), (173, RV.d (DV.int Go.IntKind.i64 (Nat.cast (R := Int) (k + 1)))), (171, RV.d (DV.bool true))] [] [0, 1, 2, 3, 4, 18, 19, 20, 21, 22] [true, decide (0 ≤ (Nat.cast (R := Int) q) ∧ (Nat.cast (R := Int) q) < (Nat.cast (R := Int) l.length)), decide ((Nat.cast (R := Int) q).toNat < l.length), Nat.ble 4 (l.getD (Nat.cast (R := Int) q).toNat DV.nilp).cells.length, decide (0 ≤ (Nat.cast (R := Int) k) ∧ (Nat.cast (R := Int) k) < (Nat.cast (R := Int) l.length)), decide ((Nat.cast (R := Int) k).toNat < l.length), Nat.ble 4 (l.getD (Nat.cast (R := Int) k).toNat DV.nilp).cells.length, isC (DV.agg [DV.str y.1, DV.lst 3 (List.map vD y.2) false, DV.lst 3 (List.map vD y.3) false, DV.lst 3 (List.map vD y.4) false]), isC (DV.agg [DV.str x.1, DV.lst 3 (List.map vD x.2) false, DV.lst 3 (List.map vD x.3) false, DV.lst 3 (List.map vD x.4) false])] [(RV.d (DV.bool (decide ((Nat.cast (R := Int) i) < (Nat.cast (R := Int) j)))), RV.d (DV.bool true)), (RV.d (DV.int Go.IntKind.i64 (Go.IntKind.i64.wrap ((Go.IntKind.u64.wrap (Go.IntKind.i64.wrap ((Nat.cast (R := Int) i) + (Nat.cast (R := Int) j)))).fdiv (2)))), RV.d (DV.int Go.IntKind.i64 (Nat.cast (R := Int) k))), (RV.d (DV.int Go.IntKind.i64 (Go.IntKind.i64.wrap ((Nat.cast (R := Int) p) - (Nat.cast (R := Int) k)))), RV.d (DV.int Go.IntKind.i64 (Nat.cast (R := Int) q))), (RV.d (DV.agg (List.take 4 (List.drop 0 (l.getD (Nat.cast (R := Int) q).toNat DV.nilp).cells))), RV.d (DV.agg [DV.str y.1, DV.lst 3 (List.map vD y.2) false, DV.lst 3 (List.map vD y.3) false, DV.lst 3 (List.map vD y.4) false])), (RV.d (DV.agg (List.take 4 (List.drop 0 (l.getD (Nat.cast (R := Int) k).toNat DV.nilp).cells))), RV.d (DV.agg [DV.str x.1, DV.lst 3 (List.map vD x.2) false, DV.lst 3 (List.map vD x.3) false, DV.lst 3 (List.map vD x.4) false])), (RV.d (DV.int Go.IntKind.i64 (Plain.cmpC { t := y.1, k := List.map toVal (List.map vD y.k), o := List.map toVal (List.map vD y.o), n := List.map toVal (List.map vD y.n) } { t := x.1, k := List.map toVal (List.map vD x.k), o := List.map toVal (List.map vD x.o), n := List.map toVal (List.map vD x.n) })), RV.d (DV.int Go.IntKind.i64 (Plain.cmpC y x))), (RV.d (DV.bool !decide (Plain.cmpC y x < 0)), RV.d (DV.bool true)), (RV.d (DV.int Go.IntKind.i64 (Go.IntKind.i64.wrap ((Nat.cast (R := Int) k) + 1))), RV.d (DV.int Go.IntKind.i64 (Nat.cast (R := Int) (k + 1))))] rfl (by kernel_rfl : runSegA (cfB (ts3 N)) 1000 0 _ _ _ _ (sy3 l (a : Int) (m : Int) (b : Int) (h : Int) (n : Int) (i : Int) (j : Int) (p : Int)) = some (stackAt syC 4, sy3 l (a : Int) (m : Int) (b : Int) (h : Int) (n : Int) (Nat.cast (R := Int) (k + 1)) (Nat.cast (R := Int) j) (p : Int), _, _)) (by refine ⟨?_, ?_, ?_, ?_, ?_, ?_, ?_, ?_, ?_, trivial⟩ <;> (first | rfl | exact bx1 | exact bx2 | exact bx3 | exact by1 | exact by2 | exact by3 | exact isC_chD hxo | exact isC_chD hyo)) (by refine ⟨?_, ?_, ?_, ?_, ?_, ?_, le_bool h171, ?_, trivial⟩ <;> (first | exact le_bool (decide_eq_true (by omega)) | exact ov_half (by omega) (by omega) | exact ov_sub (by omega) (by omega) | exact bx4 | exact by4 | exact ov_C y x | exact ov_succ (by omega))) ?_
      first | exact hlo (by simpa using h171) | exact hhi (by simpa using h171)
    · skip
      refine WK.segA ok 1000 0 [(151, RV.d (DV.bool true)), (157, RV.d (DV.int Go.IntKind.i64 (Nat.cast (R := Int) k))), (162, RV.d (DV.int Go.IntKind.i64 (Nat.cast (R := Int) q))), (164, RV.d (DV.agg [DV.str y.1, DV.lst 3 (List.map vD y.2) false, DV.lst 3 (List.map vD y.3) false, DV.lst 3 (List.map vD y.4) false])), (168, RV.d (DV.agg [DV.str x.1, DV.lst 3 (List.map vD x.2) false, DV.lst 3 (List.map vD x.3) false, DV.lst 3 (List.map vD x.4) false])), (169, RV.d (DV.int Go.IntKind.i64 (Plain.cmpC y x))), (173, RV.d (DV.int Go.IntKind.i64 (Nat.cast (R := Int) (k + 1)))), (171, RV.d (DV.bool false))] [] [0, 1, 2, 3, 4, 18, 19, 20, 21, 22] [true, decide (0 ≤ (Nat.cast (R := Int) q) ∧ (Nat.cast (R := Int) q) < (Nat.cast (R := Int) l.length)), decide ((Nat.cast (R := Int) q).toNat < l.length), Nat.ble 4 (l.getD (Nat.cast (R := Int) q).toNat DV.nilp).cells.length, decide (0 ≤ (Nat.cast (R := Int) k) ∧ (Nat.cast (R := Int) k) < (Nat.cast (R := Int) l.length)), decide ((Nat.cast (R := Int) k).toNat < l.length), Nat.ble 4 (l.getD (Nat.cast (R := Int) k).toNat DV.nilp).cells.length, isC (DV.agg [DV.str y.1, DV.lst 3 (List.map vD y.2) false, DV.lst 3 (List.map vD y.3) false, DV.lst 3 (List.map vD y.4) false]), isC (DV.agg [DV.str x.1, DV.lst 3 (List.map vD x.2) false, DV.lst 3 (List.map vD x.3) false, DV.lst 3 (List.map vD x.4) false])] [(RV.d (DV.bool (decide ((Nat.cast (R := Int) i) < (Nat.cast (R := Int) j)))), RV.d (DV.bool true)), (RV.d (DV.int Go.IntKind.i64 (Go.IntKind.i64.wrap ((Go.IntKind.u64.wrap (Go.IntKind.i64.wrap ((Nat.cast (R := Int) i) + (Nat.cast (R := Int) j)))).fdiv (2)))), RV.d (DV.int Go.IntKind.i64 (Nat.cast (R := Int) k))), (RV.d (DV.int Go.IntKind.i64 (Go.IntKind.i64.wrap ((Nat.cast (R := Int) p) - (Nat.cast (R := Int) k)))), RV.d (DV.int Go.IntKind.i64 (Nat.cast (R := Int) q))), (RV.d (DV.agg (List.take 4 (List.drop 0 (l.getD (Nat.cast (R := Int) q).toNat DV.nilp).cells))), RV.d (DV.agg [DV.str y.1, DV.lst 3 (List.map vD y.2) false, DV.lst 3 (List.map vD y.3) false, DV.lst 3 (List.map vD y.4) false])), (RV.d (DV.agg (List.take 4 (List.drop 0 (l.getD (Nat.cast (R := Int) k).toNat DV.nilp).cells))), RV.d (DV.agg [DV.str x.1, DV.lst 3 (List.map vD x.2) false, DV.lst 3 (List.map vD x.3) false, DV.lst 3 (List.map vD x.4) false])), (RV.d (DV.int Go.IntKind.i64 (Plain.cmpC { t := y.1, k := List.map toVal (List.map vD y.k), o := List.map toVal (List.map vD y.o), n := List.map toVal (List.map vD y.n) } { t := x.1, k := List.map toVal (List.map vD x.k), o := List.map toVal (List.map vD x.o), n := List.map toVal (List.map vD x.n) })), RV.d (DV.int Go.IntKind.i64 (Plain.cmpC y x))), (RV.d (DV.bool !decide (Plain.cmpC y x < 0)), RV.d (DV.bool false))] rfl (by kernel_rfl : runSegA (cfB (ts3 N)) 1000 0 _ _ _ _ (sy3 l (a : Int) (m : Int) (b : Int) (h : Int) (n : Int) (i : Int) (j : Int) (p : Int)) = some (stackAt syC 4, sy3 l (a : Int) (m : Int) (b : Int) (h : Int) (n : Int) (Nat.cast (R := Int) i) (Nat.cast (R := Int) k) (p : Int), _, _)) (by refine ⟨?_, ?_, ?_, ?_, ?_, ?_, ?_, ?_, ?_, trivial⟩ <;> (first | rfl | exact bx1 | exact bx2 | exact bx3 | exact by1 | exact by2 | exact by3 | exact isC_chD hxo | exact isC_chD hyo)) (by refine ⟨?_, ?_, ?_, ?_, ?_, ?_, le_bool h171, trivial⟩ <;> (first | exact le_bool (decide_eq_true (by omega)) | exact ov_half (by omega) (by omega) | exact ov_sub (by omega) (by omega) | exact bx4 | exact by4 | exact ov_C y x | exact ov_succ (by omega))) ?_
      first | exact hlo (by simpa using h171) | exact hhi (by simpa using h171)
  · have e : i = j := by omega
    subst e
    obtain ⟨s, hs'⟩ : ∃ s, i - a = s := ⟨_, rfl⟩
    obtain ⟨u, hu⟩ : ∃ u, n - i - m = u := ⟨_, rfl⟩
    obtain ⟨e, he⟩ : ∃ e, n - i = e := ⟨_, rfl⟩
    have hmm := Srt.sym_at (s := s) (u := u) preC sX sY
      (by
        rcases h4 with h4 | ⟨x, y, g1, g2, g3⟩
        · rcases hs with hs | hs
          · exact .inr (.inl (by omega))
          · exact .inl (by omega)
        · refine .inr (.inr ⟨x, y, ?_, ?_, g3⟩)
          · rw [← g1]; congr 1; omega
          · rw [← g2, hu])
      (by
        rcases h5 with h5 | ⟨x, y, g1, g2, g3⟩
        · rcases hs with hs | hs
          · exact .inr (.inl (by omega))
          · exact .inl (by omega)
        · refine .inr (.inr ⟨x, y, ?_, ?_, g3⟩)
          · rw [← g1, hs']
          · rw [← g2]; congr 1; omega)
    clear h4 h5 ih
    have x1 : (X.take s).length = s := by rw [List.length_take]; omega
    have x2 : (X.drop s).length = X.length - s := List.length_drop
    have y1 : (Y.take u).length = u := by rw [List.length_take]; omega
    have y2 : (Y.drop u).length = Y.length - u := List.length_drop
    have eL : A ++ (X ++ (Y ++ B)) = A ++ (X.take s ++ (X.drop s ++ (Y.take u ++ (Y.drop u ++ B)))) := by
      rw [← List.append_assoc (Y.take u), List.take_append_drop, ← List.append_assoc (X.take s), List.take_append_drop]
    have sX1 := Srt.srtB_take s sX
    have sX2 := Srt.srtB_drop s sX
    have sY1 := Srt.srtB_take u sY
    have sY2 := Srt.srtB_drop u sY
    rw [hmm] at hT
    rw [eL] at hok ⊢
    rw [← hT]
    clear gX gY
    exact sy_join hent A _ _ _ _ B hok sX1 sX2 sY1 sY2 a i m e b h n p ha (by rw [x1]; omega) (by rw [x2]; omega) (by rw [y1]; omega) (by rw [y2]; omega) (by rw [y1]; omega) (by omega) (by omega) (by omega) (by omega) (by omega)
end Go.Proofs.Ytljfolepmkcjlaa

/-
  The symmetric merge, the whole.
-/
namespace Go.Proofs.Ytljfolepmkcjlaa
open Go.RowKit Plain Am IntWalk
set_option maxRecDepth 100000
set_option linter.unusedVariables false
set_option linter.unusedSimpArgs false

set_option maxHeartbeats 4000000 in
theorem sym_c {N : Nat} (hent : EntsOk Try.prog (ts3 N)) (A X Y B : List Chg) (hx : 1 ≤ X.length) (hy : 1 ≤ Y.length) (hok : okL (A ++ (X ++ (Y ++ B)))) (sX : Srt.srtB cmpC X = true) (sY : Srt.srtB cmpC Y = true) (hN : X.length + Y.length ≤ N) :
    C Try.prog 101 [.own 0 4, .d (.int .i64 (A.length : Int)), .d (.int .i64 ((A.length + X.length : Nat) : Int)), .d (.int .i64 ((A.length + X.length + Y.length : Nat) : Int)), cmpv] (arC ((A ++ (X ++ (Y ++ B))).map chD))
      (fun r o => r = .tup [] ∧ o = arC ((A ++ (Srt.mrg cmpC X Y ++ B)).map chD)) := by
  have ok := cfB_ok hent
  refine C_of_run (fn := Try.f101) (body := syC) false (by kernel_rfl) (by kernel_rfl) (by kernel_rfl) ?_
  obtain ⟨a, ha⟩ : ∃ a, A.length = a := ⟨_, rfl⟩
  obtain ⟨m, hm⟩ : ∃ m, a + X.length = m := ⟨_, rfl⟩
  obtain ⟨b, hb⟩ : ∃ b, m + Y.length = b := ⟨_, rfl⟩
  have hlen : a + (X.length + (Y.length + B.length)) ≤ 65536 := by have := hok.1; simp only [List.length_append] at this; omega
  rw [ha, hm, hb]
  by_cases h1 : X.length = 1
  · obtain ⟨x, rfl⟩ : ∃ x, X = [x] := List.length_eq_one_iff.1 h1
    have hd := sy_one hent A x Y B sY hok
    simp only [List.length_singleton] at hm
    rw [ha, hm, hb] at hd
    rw [show A ++ ([x] ++ (Y ++ B)) = A ++ x :: (Y ++ B) by simp]
    obtain ⟨l, hl⟩ : ∃ l, (A ++ x :: (Y ++ B)).map chD = l := ⟨_, rfl⟩
    obtain ⟨T, hT⟩ : ∃ T, (A ++ (Srt.mrg cmpC [x] Y ++ B)).map chD = T := ⟨_, rfl⟩
    rw [hl, hT] at hd
    rw [hl, hT]
    have f1 : decide (m = a + 1) = true := decide_eq_true (by omega)
    refine WK.segA ok 1000 0 [(28, RV.d (DV.bool true))] [] [0, 1, 4, 10, 11] [] [(RV.d (DV.bool (Go.IntKind.i64.wrap ((Nat.cast (R := Int) m) - (Nat.cast (R := Int) a)) == 1)), RV.d (DV.bool true))] rfl (by kernel_rfl : runSegA (cfB (ts3 N)) 1000 0 _ _ _ _ (ini 220 [.own 0 4, .d (.int .i64 (a : Int)), .d (.int .i64 (m : Int)), .d (.int .i64 (b : Int)), cmpv] (arC l)) = some (stackAt syC 0, sy1 l (a : Int) (m : Int) (b : Int), _, _)) trivial ⟨(by exact ov_is1 f1 (by omega) (by omega)), trivial⟩ ?_
    exact hd
  · by_cases h2 : Y.length = 1
    · obtain ⟨y, rfl⟩ : ∃ y, Y = [y] := List.length_eq_one_iff.1 h2
      have hd := sy_last hent A X y B sX hok
      simp only [List.length_singleton] at hb
      rw [ha, hm] at hd
      rw [show A ++ (X ++ ([y] ++ B)) = A ++ (X ++ y :: B) by simp]
      obtain ⟨l, hl⟩ : ∃ l, (A ++ (X ++ y :: B)).map chD = l := ⟨_, rfl⟩
      obtain ⟨T, hT⟩ : ∃ T, (A ++ (Srt.mrg cmpC X [y] ++ B)).map chD = T := ⟨_, rfl⟩
      rw [hl, hT] at hd
      rw [hl, hT]
      have f1 : decide (m = a + 1) = false := decide_eq_false (by omega)
      have f2 : decide (b = m + 1) = true := decide_eq_true (by omega)
      refine WK.segA ok 1000 0 [(28, RV.d (DV.bool false)), (80, RV.d (DV.bool true))] [] [0, 2, 4, 14, 15] [] [(RV.d (DV.bool (Go.IntKind.i64.wrap ((Nat.cast (R := Int) m) - (Nat.cast (R := Int) a)) == 1)), RV.d (DV.bool false)), (RV.d (DV.bool (Go.IntKind.i64.wrap ((Nat.cast (R := Int) b) - (Nat.cast (R := Int) m)) == 1)), RV.d (DV.bool true))] rfl (by kernel_rfl : runSegA (cfB (ts3 N)) 1000 0 _ _ _ _ (ini 220 [.own 0 4, .d (.int .i64 (a : Int)), .d (.int .i64 (m : Int)), .d (.int .i64 (b : Int)), cmpv] (arC l)) = some (stackAt syC 2, sy2 l (m : Int) (a : Int) (m : Int), _, _)) trivial (by refine ⟨?_, ?_, trivial⟩ <;> (first | exact ov_is1 f1 (by omega) (by omega) | exact ov_is1 f2 (by omega) (by omega))) ?_
      exact hd
    · obtain ⟨h, hh⟩ : ∃ h, (a + b) / 2 = h := ⟨_, rfl⟩
      obtain ⟨n, hn⟩ : ∃ n, h + m = n := ⟨_, rfl⟩
      obtain ⟨p, hp⟩ : ∃ p, p + 1 = n := ⟨n - 1, by omega⟩
      obtain ⟨s0, hs0⟩ : ∃ s0, n - b = s0 := ⟨_, rfl⟩
      have hA : decide ((Nat.cast (R := Int) h) < (Nat.cast (R := Int) m)) = true → _ := fun hc => sy_find hent A X Y B (by omega) (by omega) hok sX sY hN a m b h n p s0 h ha hm hb hh hn hp (.inl ⟨by have := of_decide_eq_true hc; omega, by have := of_decide_eq_true hc; omega, rfl⟩)
      have hB : decide ((Nat.cast (R := Int) h) < (Nat.cast (R := Int) m)) = false → _ := fun hc => sy_find hent A X Y B (by omega) (by omega) hok sX sY hN a m b h n p a m ha hm hb hh hn hp (.inr ⟨by have := of_decide_eq_false hc; omega, rfl, rfl⟩)
      obtain ⟨l, hl⟩ : ∃ l, (A ++ (X ++ (Y ++ B))).map chD = l := ⟨_, rfl⟩
      obtain ⟨T, hT⟩ : ∃ T, (A ++ (Srt.mrg cmpC X Y ++ B)).map chD = T := ⟨_, rfl⟩
      rw [hl, hT] at hA hB
      rw [hl, hT]
      have f1 : decide (m = a + 1) = false := decide_eq_false (by omega)
      have f2 : decide (b = m + 1) = false := decide_eq_false (by omega)
      have g1 : a + b ≤ 1000000 := by omega
      have g2 : h + m = n := hn
      have g3 : n ≤ 1000000 := by omega
      have g4 : p + 1 = n := hp
      have g5 : decide ((Nat.cast (R := Int) h) < (Nat.cast (R := Int) m)) = true → s0 + b = n := fun hc => by have := of_decide_eq_true hc; omega
      have g6 : m ≤ 1000000 := by omega
      have g7 : b ≤ 1000000 := by omega
      have g8 : a ≤ m := by omega
      have g9 : m ≤ b := by omega
      rcases Bool.eq_false_or_eq_true (decide ((Nat.cast (R := Int) h) < (Nat.cast (R := Int) m)) : Bool) with h140 | h140
      · skip
        refine WK.segA ok 1000 0 [(28, RV.d (DV.bool false)), (80, RV.d (DV.bool false)), (134, RV.d (DV.int Go.IntKind.i64 (Nat.cast (R := Int) h))), (137, RV.d (DV.int Go.IntKind.i64 (Nat.cast (R := Int) n))), (143, RV.d (DV.int Go.IntKind.i64 (Nat.cast (R := Int) s0))), (148, RV.d (DV.int Go.IntKind.i64 (Nat.cast (R := Int) p))), (140, RV.d (DV.bool true))] [] [0, 1, 2, 3, 4, 18, 19, 20, 21, 22] [true] [(RV.d (DV.bool (Go.IntKind.i64.wrap ((Nat.cast (R := Int) m) - (Nat.cast (R := Int) a)) == 1)), RV.d (DV.bool false)), (RV.d (DV.bool (Go.IntKind.i64.wrap ((Nat.cast (R := Int) b) - (Nat.cast (R := Int) m)) == 1)), RV.d (DV.bool false)), (RV.d (DV.int Go.IntKind.i64 (Go.IntKind.i64.wrap ((Go.IntKind.u64.wrap (Go.IntKind.i64.wrap ((Nat.cast (R := Int) a) + (Nat.cast (R := Int) b)))).fdiv (2)))), RV.d (DV.int Go.IntKind.i64 (Nat.cast (R := Int) h))), (RV.d (DV.int Go.IntKind.i64 (Go.IntKind.i64.wrap ((Nat.cast (R := Int) h) + (Nat.cast (R := Int) m)))), RV.d (DV.int Go.IntKind.i64 (Nat.cast (R := Int) n))), (RV.d (DV.bool (decide ((Nat.cast (R := Int) h) < (Nat.cast (R := Int) m)))), RV.d (DV.bool true)), (RV.d (DV.int Go.IntKind.i64 (Go.IntKind.i64.wrap ((Nat.cast (R := Int) n) - (Nat.cast (R := Int) b)))), RV.d (DV.int Go.IntKind.i64 (Nat.cast (R := Int) s0))), (RV.d (DV.int Go.IntKind.i64 (Go.IntKind.i64.wrap ((Nat.cast (R := Int) n) - 1))), RV.d (DV.int Go.IntKind.i64 (Nat.cast (R := Int) p)))] rfl (by kernel_rfl : runSegA (cfB (ts3 N)) 1000 0 _ _ _ _ (ini 220 [.own 0 4, .d (.int .i64 (a : Int)), .d (.int .i64 (m : Int)), .d (.int .i64 (b : Int)), cmpv] (arC l)) = some (stackAt syC 4, sy3 l (a : Int) (m : Int) (b : Int) (h : Int) (n : Int) (Nat.cast (R := Int) s0) (Nat.cast (R := Int) h) (p : Int), _, _)) ⟨(by first | rfl | assumption | (simp; omega)), trivial⟩ (by refine ⟨?_, ?_, ?_, ?_, le_bool h140, ?_, ?_, trivial⟩ <;> (first | exact ov_is1 f1 g6 g8 | exact ov_is1 f2 g7 g9 | exact ov_half hh g1 | exact ov_add g2 g3 | exact ov_dec g4 g3 | exact ov_sub (g5 h140) g3)) ?_
        first | exact hA h140 | exact hB h140
      · skip
        refine WK.segA ok 1000 0 [(28, RV.d (DV.bool false)), (80, RV.d (DV.bool false)), (134, RV.d (DV.int Go.IntKind.i64 (Nat.cast (R := Int) h))), (137, RV.d (DV.int Go.IntKind.i64 (Nat.cast (R := Int) n))), (143, RV.d (DV.int Go.IntKind.i64 (Nat.cast (R := Int) s0))), (148, RV.d (DV.int Go.IntKind.i64 (Nat.cast (R := Int) p))), (140, RV.d (DV.bool false))] [] [0, 1, 2, 3, 4, 18, 19, 20, 21, 22] [true] [(RV.d (DV.bool (Go.IntKind.i64.wrap ((Nat.cast (R := Int) m) - (Nat.cast (R := Int) a)) == 1)), RV.d (DV.bool false)), (RV.d (DV.bool (Go.IntKind.i64.wrap ((Nat.cast (R := Int) b) - (Nat.cast (R := Int) m)) == 1)), RV.d (DV.bool false)), (RV.d (DV.int Go.IntKind.i64 (Go.IntKind.i64.wrap ((Go.IntKind.u64.wrap (Go.IntKind.i64.wrap ((Nat.cast (R := Int) a) + (Nat.cast (R := Int) b)))).fdiv (2)))), RV.d (DV.int Go.IntKind.i64 (Nat.cast (R := Int) h))), (RV.d (DV.int Go.IntKind.i64 (Go.IntKind.i64.wrap ((Nat.cast (R := Int) h) + (Nat.cast (R := Int) m)))), RV.d (DV.int Go.IntKind.i64 (Nat.cast (R := Int) n))), (RV.d (DV.bool (decide ((Nat.cast (R := Int) h) < (Nat.cast (R := Int) m)))), RV.d (DV.bool false)), (RV.d (DV.int Go.IntKind.i64 (Go.IntKind.i64.wrap ((Nat.cast (R := Int) n) - 1))), RV.d (DV.int Go.IntKind.i64 (Nat.cast (R := Int) p)))] rfl (by kernel_rfl : runSegA (cfB (ts3 N)) 1000 0 _ _ _ _ (ini 220 [.own 0 4, .d (.int .i64 (a : Int)), .d (.int .i64 (m : Int)), .d (.int .i64 (b : Int)), cmpv] (arC l)) = some (stackAt syC 4, sy3 l (a : Int) (m : Int) (b : Int) (h : Int) (n : Int) (Nat.cast (R := Int) a) (Nat.cast (R := Int) m) (p : Int), _, _)) ⟨(by first | rfl | assumption | (simp; omega)), trivial⟩ (by refine ⟨?_, ?_, ?_, ?_, le_bool h140, ?_, trivial⟩ <;> (first | exact ov_is1 f1 g6 g8 | exact ov_is1 f2 g7 g9 | exact ov_half hh g1 | exact ov_add g2 g3 | exact ov_dec g4 g3 | exact ov_sub (g5 h140) g3)) ?_
        first | exact hA h140 | exact hB h140
theorem sym_step {N : Nat} (hent : EntsOk Try.prog (ts3 N)) : EntOk Try.prog 101 (symE (N + 1)) := by
    intro a o r o' c hg hc
    unfold symE at hg
    split at hg
    · rename_i p m q f T els
      simp only [Option.some.injEq, Prod.mk.injEq] at hg
      obtain ⟨rfl, rfl, rfl⟩ := hg
      have hT := nbE (hc (Nat.beq T chT) (by simp))
      have hF := nbE (hc (Nat.beq f 39) (by simp))
      have h1 := hc (els.all isC) (by simp)
      have h2 := of_decide_eq_true (hc (decide (0 ≤ p)) (by simp))
      have h3 := of_decide_eq_true (hc (decide (p < m)) (by simp))
      have h4 := of_decide_eq_true (hc (decide (m < q)) (by simp))
      have h5 := of_decide_eq_true (hc (decide (q ≤ els.length)) (by simp))
      have h6 := of_decide_eq_true (hc (decide (els.length ≤ 65536)) (by simp))
      have h7 := hc (srtP els p.toNat m.toNat) (by simp)
      have h8 := hc (srtP els m.toNat q.toNat) (by simp)
      have h9 := of_decide_eq_true (hc (decide (q - p < ((N + 1 : Nat) : Int))) (by simp))
      subst hT hF
      obtain ⟨L, rfl, hLok⟩ := els_of h1 h6
      rw [List.length_map] at h5 h6
      obtain ⟨p, rfl⟩ : ∃ k : Nat, p = k := ⟨p.toNat, by omega⟩
      obtain ⟨m, rfl⟩ : ∃ k : Nat, m = k := ⟨m.toNat, by omega⟩
      obtain ⟨q, rfl⟩ : ∃ k : Nat, q = k := ⟨q.toNat, by omega⟩
      have e := parts4 L p m q (by omega) (by omega)
      have l1 : (L.take p).length = p := by rw [List.length_take]; omega
      have l2 : (part L p m).length = m - p := part_len (by omega)
      have l3 : (part L m q).length = q - m := part_len (by omega)
      simp only [Int.toNat_natCast] at h7 h8
      unfold srtP at h7 h8
      rw [part_map, unL_map] at h7 h8
      have := sym_c hent (L.take p) (part L p m) (part L m q) (L.drop q) (by omega) (by omega) (by rw [← e]; exact hLok) h7 h8 (by omega)
      rw [← e, l1, l2, l3, show p + (m - p) = m by omega, show m + (q - m) = q by omega] at this
      simp only [Int.toNat_natCast]
      have e2 : symL (L.map chD) p m q = (L.take p ++ (Srt.mrg cmpC (part L p m) (part L m q) ++ L.drop q)).map chD := by
        unfold symL
        rw [part_map, part_map, unL_map, unL_map, ← List.map_take, ← List.map_drop, ← List.map_append, ← List.map_append]
      rw [e2]
      exact this
    · cases hg
theorem sym_ent : ∀ N : Nat, EntOk Try.prog 101 (symE N)
  | 0 => by
    intro a o r o' c hg hc
    unfold symE at hg
    split at hg
    · rename_i p m q f T els
      simp only [Option.some.injEq, Prod.mk.injEq] at hg
      obtain ⟨rfl, rfl, rfl⟩ := hg
      have h3 := of_decide_eq_true (hc (decide (p < m)) (by simp))
      have h4 := of_decide_eq_true (hc (decide (m < q)) (by simp))
      have h9 := of_decide_eq_true (hc (decide (q - p < ((0 : Nat) : Int))) (by simp))
      omega
    · cases hg
  | N + 1 => sym_step (.cons (ccG_ent mc_c) (.cons ro_ent (.cons (sym_ent N) .nil)))
end Go.Proofs.Ytljfolepmkcjlaa

/-
  Stable sorting, run.
-/
namespace Go.Proofs.Ytljfolepmkcjlaa
open Go.RowKit Plain Am IntWalk
set_option maxRecDepth 100000
set_option linter.unusedVariables false
set_option linter.unusedSimpArgs false

noncomputable abbrev stC : Code := bodyOf Try.f88
def st1 (l : List DV) (n a b : Int) : ESt := { n := 63, m := 1, regs := T.mk [(0, .own 0 4), (1, .d (.int .i64 n)), (2, cmpv), (6, .d (.int .i64 20)), (7, .d (.int .i64 a)), (8, .d (.int .i64 b))], objs := T.mk [(0, .arr 46 4 l)] }
def st2 (l : List DV) (n s : Int) : ESt := { n := 63, m := 1, regs := T.mk [(0, .own 0 4), (1, .d (.int .i64 n)), (2, cmpv), (6, .d (.int .i64 s))], objs := T.mk [(0, .arr 46 4 l)] }
def st3 (l : List DV) (n s a b : Int) : ESt := { n := 63, m := 1, regs := T.mk [(0, .own 0 4), (1, .d (.int .i64 n)), (2, cmpv), (6, .d (.int .i64 s)), (7, .d (.int .i64 a)), (8, .d (.int .i64 b))], objs := T.mk [(0, .arr 46 4 l)] }
def insL (els : List DV) (p q : Nat) : List DV := els.take p ++ ((Srt.isort cmpC ((part els p q).map toChg)).map chD ++ els.drop q)
def insE2 : Ent := fun a o => match a, o with
  | [.own 0 4, .d (.int .i64 p), .d (.int .i64 q), .clo (.func f) [] []], [.arr T 4 els] =>
    some (.tup [], [.arr T 4 (insL els p.toNat q.toNat)], [Nat.beq T chT, Nat.beq f 39, els.all isC, decide (0 ≤ p), decide (p ≤ q), decide (q ≤ els.length), decide (els.length ≤ 65536)])
  | _, _ => none
noncomputable def ts4 : List (Nat × Ent) := [(100, insE2), (101, symE 65537)]
/-- sorted blocks of one length, one behind the other -/
inductive Blks (s : Nat) : List Chg → Prop
  | nil : Blks s []
  | cons {X Q : List Chg} (hl : X.length = s) (hs : Srt.srtB cmpC X = true) (hq : Blks s Q) : Blks s (X ++ Q)
theorem Blks.snoc {s : Nat} {P X : List Chg} (h : Blks s P) (hl : X.length = s) (hs : Srt.srtB cmpC X = true) : Blks s (P ++ X) := by
  induction h with
  | nil => have := Blks.cons hl hs .nil; simpa using this
  | cons h1 h2 _ ih => rw [List.append_assoc]; exact .cons h1 h2 ih
theorem Blks.split {s : Nat} {Q : List Chg} (h : Blks s Q) (hn : 1 ≤ Q.length) : ∃ X Q1, Q = X ++ Q1 ∧ X.length = s ∧ Srt.srtB cmpC X = true ∧ Blks s Q1 := by
  cases h with
  | nil => simp at hn
  | cons h1 h2 h3 => exact ⟨_, _, rfl, h1, h2, h3⟩
theorem insL_eq (A U R : List Chg) {p q : Nat} (hp : p = A.length) (hq : q = p + U.length) : insL ((A ++ (U ++ R)).map chD) p q = (A ++ (Srt.isort cmpC U ++ R)).map chD := by
  unfold insL
  have h1 : part (A ++ (U ++ R)) p q = U := part_eq A U _ p q hp (by omega)
  have h3 : (A ++ (U ++ R)).drop q = R := by
    rw [← List.append_assoc]; exact List.drop_left' (by simp; omega)
  rw [part_map, unL_map, h1, ← List.map_take, ← List.map_drop, h3, List.take_left' hp.symm, List.map_append, List.map_append]
theorem ins2_ent : EntOk Try.prog 100 insE2 := ins_ent
theorem ts4_ok : EntsOk Try.prog ts4 := .cons ins2_ent (.cons (sym_ent 65537) .nil)
abbrev EndsSt (l : List DV) : SSt → Prop := EndsB (Try.f88.results.toList) l
theorem isort_len (l : List Chg) : (Srt.isort cmpC l).length = l.length := (Srt.isort_ok preC l).2.length_eq
theorem ov_dbl {s q : Nat} (h : 2 * s = q) (hb : q ≤ 1000000) : RVle (.d (.int .i64 (IntKind.i64.wrap (2 * (Nat.cast (R := Int) s))))) (.d (.int .i64 (Nat.cast (R := Int) q))) := .of_eq (by
  rw [i64_in _ (by omega)]; congr 2; omega)
theorem ov_dbl2 {s q : Nat} (h : 2 * s = q) (hb : q ≤ 1000000) : RVle (.d (.int .i64 (IntKind.i64.wrap ((Nat.cast (R := Int) s) * 2)))) (.d (.int .i64 (Nat.cast (R := Int) q))) := .of_eq (by
  rw [i64_in _ (by omega)]; congr 2; omega)
theorem ov_add20 {s q : Nat} (h : s + 20 = q) (hb : q ≤ 1000000) : RVle (.d (.int .i64 (IntKind.i64.wrap ((Nat.cast (R := Int) s) + 20)))) (.d (.int .i64 (Nat.cast (R := Int) q))) := .of_eq (by
  rw [i64_in _ (by omega)]; congr 2; omega)
theorem ov_adddbl {b s q : Nat} (h : b + 2 * s = q) (hb : q ≤ 1000000) : RVle (.d (.int .i64 (IntKind.i64.wrap ((Nat.cast (R := Int) b) + IntKind.i64.wrap (2 * (Nat.cast (R := Int) s)))))) (.d (.int .i64 (Nat.cast (R := Int) q))) := .of_eq (by
  rw [i64_in (2 * (Nat.cast (R := Int) s)) (by omega), i64_in _ (by omega)]; congr 2; omega)
set_option maxHeartbeats 4000000 in
/-- the blocks are merged in pairs -/
theorem st_merge (L0 : List Chg) (hok : okL L0) (hd : distB L0 = true) (n s : Nat) (hn : L0.length = n) (hs : 1 ≤ s) (hsn : s < n) (P Q R : List Chg) (hp : (P ++ (Q ++ R)).Perm L0) (bP : Blks (2 * s) P) (bQ : Blks s Q) (sR : Srt.srtB cmpC R = true) (lR : R.length < s)
    (hk : ∀ Q' R', (Q' ++ R').Perm L0 → Blks (2 * s) Q' → Srt.srtB cmpC R' = true → R'.length < 2 * s → WK Try.prog 1 (stackAt stC 1) (st2 ((Q' ++ R').map chD) (n : Int) ((2 * s : Nat) : Int)).den (EndsSt ((Srt.isort cmpC L0).map chD))) :
    WK Try.prog 1 (stackAt stC 2) (st3 ((P ++ (Q ++ R)).map chD) (n : Int) (s : Int) (P.length : Int) ((P.length + 2 * s : Nat) : Int)).den (EndsSt ((Srt.isort cmpC L0).map chD)) := by
  have ok := cfB_ok ts4_ok
  obtain ⟨T, hT⟩ : ∃ T, (Srt.isort cmpC L0).map chD = T := ⟨_, rfl⟩
  obtain ⟨dd, hq'⟩ : ∃ dd, 2 * s = dd := ⟨_, rfl⟩
  have hn6 : n ≤ 65536 := by have := hok.1; omega
  rw [hT] at hk ⊢
  rw [hq'] at hk bP ⊢
  have key := WK.rec' (P := Try.prog) (m := 1) (k := stackAt stC 2) (Q := EndsSt T) (fun (q : List Chg × List Chg) => st3 ((q.1 ++ (q.2 ++ R)).map chD) (n : Int) (s : Int) (q.1.length : Int) ((q.1.length + dd : Nat) : Int)) (fun q => (q.1 ++ (q.2 ++ R)).Perm L0 ∧ Blks dd q.1 ∧ Blks s q.2) (fun q => q.2.length) ?_ (P, Q) ⟨hp, bP, bQ⟩
  · exact key
  clear hp bP bQ
  rintro ⟨P, Q⟩ ⟨hp, bP, bQ⟩ ih
  simp only at hp bP bQ ih ⊢
  obtain ⟨a, ha⟩ : ∃ a, P.length = a := ⟨_, rfl⟩
  obtain ⟨b, hb⟩ : ∃ b, a + dd = b := ⟨_, rfl⟩
  obtain ⟨m, hm⟩ : ∃ m, a + s = m := ⟨_, rfl⟩
  have hlen : a + (Q.length + R.length) = n := by have := hp.length_eq; simp only [List.length_append] at this; omega
  have hokc : okL (P ++ (Q ++ R)) := okL_perm hok hp
  by_cases hbn : b ≤ n
  · obtain ⟨X, Q1, rfl, lX, sX, bQ1⟩ := bQ.split (by omega)
    simp only [List.length_append] at hlen
    obtain ⟨Y, Q2, rfl, lY, sY, bQ2⟩ := bQ1.split (by omega)
    simp only [List.length_append] at hlen
    have e0 : P ++ (X ++ (Y ++ Q2) ++ R) = P ++ (X ++ (Y ++ (Q2 ++ R))) := by simp
    have ml := Srt.mrg_length cmpC X Y
    have e1 : symL ((P ++ (X ++ (Y ++ (Q2 ++ R)))).map chD) a m b = ((P ++ Srt.mrg cmpC X Y) ++ (Q2 ++ R)).map chD := by
      rw [symL_eq P X Y (Q2 ++ R) ha.symm (by omega) (by omega)]; simp
    have f1 : srtP ((P ++ (X ++ (Y ++ (Q2 ++ R)))).map chD) a m = true := by rw [srtP_eq P X _ ha.symm (by omega)]; exact sX
    have f2 : srtP ((P ++ (X ++ (Y ++ (Q2 ++ R)))).map chD) m b = true := by
      have := srtP_eq (P ++ X) Y (Q2 ++ R) (p := m) (m := b) (by simp only [List.length_append]; omega) (by omega)
      rw [List.append_assoc] at this
      rw [this]; exact sY
    have hw := ih (P ++ Srt.mrg cmpC X Y, Q2) ⟨by
      refine List.Perm.trans ?_ hp
      rw [e0, List.append_assoc]
      refine List.Perm.append_left _ ?_
      rw [← List.append_assoc X]
      exact (Srt.mrg_perm cmpC _ X Y (Nat.le_refl _)).append_right _, bP.snoc (by omega) (Srt.mrg_sorted preC _ X Y (Nat.le_refl _) sX sY), bQ2⟩ (by simp only [List.length_append]; omega)
    simp only [List.length_append, ml] at hw
    rw [ha, show a + (X.length + Y.length) = b by omega, ← e1] at hw
    obtain ⟨qq, hqq⟩ : ∃ qq, b + dd = qq := ⟨_, rfl⟩
    rw [hqq] at hw
    rw [e0] at hokc ⊢
    have hall := all_isC hokc.2
    have hll : ((P ++ (X ++ (Y ++ (Q2 ++ R)))).map chD).length = n := by simp only [List.length_map, List.length_append]; omega
    obtain ⟨l, hl⟩ : ∃ l, (P ++ (X ++ (Y ++ (Q2 ++ R)))).map chD = l := ⟨_, rfl⟩
    rw [hl] at hall hll hw f1 f2 ⊢
    rw [ha, hb]
    clear ih hk hp hok hokc e0 e1 hl hT
    refine WK.segA ok 1000 0 [(35, RV.d (DV.bool true)), (40, RV.d (DV.int Go.IntKind.i64 (Nat.cast (R := Int) m))), (48, RV.d (DV.int Go.IntKind.i64 (Nat.cast (R := Int) qq)))] [] [0, 1, 2, 6, 7, 8] [true, true, l.all isC, true, decide ((Nat.cast (R := Int) a) < (Nat.cast (R := Int) m)), decide ((Nat.cast (R := Int) m) < (Nat.cast (R := Int) b)), decide ((Nat.cast (R := Int) b) ≤ (Nat.cast (R := Int) l.length)), decide (l.length ≤ 65536), srtP l (Nat.cast (R := Int) a).toNat (Nat.cast (R := Int) m).toNat, srtP l (Nat.cast (R := Int) m).toNat (Nat.cast (R := Int) b).toNat, decide ((Nat.cast (R := Int) b) - (Nat.cast (R := Int) a) < Nat.cast (R := Int)  (65537))] [(RV.d (DV.bool (decide ((Nat.cast (R := Int) b) ≤ (Nat.cast (R := Int) n)))), RV.d (DV.bool true)), (RV.d (DV.int Go.IntKind.i64 (Go.IntKind.i64.wrap ((Nat.cast (R := Int) a) + (Nat.cast (R := Int) s)))), RV.d (DV.int Go.IntKind.i64 (Nat.cast (R := Int) m))), (RV.d (DV.int Go.IntKind.i64 (Go.IntKind.i64.wrap ((Nat.cast (R := Int) b) + Go.IntKind.i64.wrap (2 * (Nat.cast (R := Int) s))))), RV.d (DV.int Go.IntKind.i64 (Nat.cast (R := Int) qq)))] rfl (by kernel_rfl : runSegA (cfB ts4) 1000 0 _ _ _ _ (st3 l (n : Int) (s : Int) (a : Int) (b : Int)) = some (stackAt stC 2, st3 (symL l (Nat.cast (R := Int) a).toNat (Nat.cast (R := Int) m).toNat (Nat.cast (R := Int) b).toNat) (n : Int) (s : Int) (b : Int) (qq : Int), _, _)) (by refine ⟨?_, ?_, ?_, ?_, ?_, ?_, ?_, ?_, ?_, ?_, ?_, trivial⟩ <;> (first | rfl | exact hall | exact f1 | exact f2 | exact decide_eq_true (by omega))) (by refine ⟨?_, ?_, ?_, trivial⟩ <;> (first | exact le_bool (decide_eq_true (by omega)) | exact ov_add hm (by omega) | exact ov_adddbl (by omega) (by omega))) ?_
    simp only [Int.toNat_natCast]
    exact hw
  · have hf : decide ((Nat.cast (R := Int) b) ≤ (Nat.cast (R := Int) n)) = false := decide_eq_false (by omega)
    have hall := all_isC hokc.2
    have hll : ((P ++ (Q ++ R)).map chD).length = n := by simp only [List.length_map, List.length_append]; omega
    have hT1 : decide ((Nat.cast (R := Int) m) < (Nat.cast (R := Int) n)) = true → srtP ((P ++ (Q ++ R)).map chD) a m = true ∧ srtP ((P ++ (Q ++ R)).map chD) m n = true ∧ WK Try.prog 1 (stackAt stC 1) (st2 (symL ((P ++ (Q ++ R)).map chD) a m n) (n : Int) (dd : Int)).den (EndsSt T) := fun hc => by
      have hc' := of_decide_eq_true hc
      obtain ⟨X, Q1, rfl, lX, sX, bQ1⟩ := bQ.split (by omega)
      simp only [List.length_append] at hlen
      have hQ1 : Q1 = [] := by
        rcases Nat.eq_zero_or_pos Q1.length with h | h
        · exact List.eq_nil_of_length_eq_zero h
        · obtain ⟨Y, Q2, rfl, lY, _, _⟩ := bQ1.split h
          simp only [List.length_append] at hlen; omega
      subst hQ1
      have ml := Srt.mrg_length cmpC X R
      simp only [List.length_nil] at hlen
      simp only [List.append_nil] at hp ⊢
      have e1 : symL ((P ++ (X ++ R)).map chD) a m n = (P ++ Srt.mrg cmpC X R).map chD := by
        have := symL_eq P X R [] ha.symm (show m = a + X.length by omega) (q := n) (by omega)
        simpa using this
      refine ⟨by rw [srtP_eq P X R ha.symm (by omega)]; exact sX, ?_, ?_⟩
      · have := srtP_eq (P ++ X) R [] (p := m) (m := n) (by simp only [List.length_append]; omega) (by omega)
        rw [List.append_nil, List.append_assoc] at this
        rw [this]; exact sR
      · rw [e1]
        exact hk P _ ((List.Perm.append_left _ (Srt.mrg_perm cmpC _ X R (Nat.le_refl _))).trans hp) bP (Srt.mrg_sorted preC _ X R (Nat.le_refl _) sX sR) (by omega)
    have hT2 : decide ((Nat.cast (R := Int) m) < (Nat.cast (R := Int) n)) = false → WK Try.prog 1 (stackAt stC 1) (st2 ((P ++ (Q ++ R)).map chD) (n : Int) (dd : Int)).den (EndsSt T) := fun hc => by
      have hc' := of_decide_eq_false hc
      rcases Nat.eq_zero_or_pos Q.length with h | h
      · have := List.eq_nil_of_length_eq_zero h
        subst this
        exact hk P R hp bP sR (by omega)
      · obtain ⟨X, Q1, rfl, lX, sX, bQ1⟩ := bQ.split h
        simp only [List.length_append] at hlen
        have hQ1 := List.eq_nil_of_length_eq_zero (l := Q1) (by omega)
        have hR := List.eq_nil_of_length_eq_zero (l := R) (by omega)
        subst hQ1 hR
        simp only [List.append_nil] at hp ⊢
        have := hk P X hp bP sX (by omega)
        exact this
    obtain ⟨l, hl⟩ : ∃ l, (P ++ (Q ++ R)).map chD = l := ⟨_, rfl⟩
    rw [hl] at hall hll hT1 hT2 ⊢
    rw [ha, hb]
    have hm6 : m ≤ 1000000 := by omega
    have hq6 : dd ≤ 1000000 := by omega
    have hs2 : 2 * s = dd := hq'
    have hlt : decide ((Nat.cast (R := Int) m) < (Nat.cast (R := Int) n)) = true → a < m ∧ m < n := fun hc => by have := of_decide_eq_true hc; omega
    clear ih hk hp hok hokc hl hT bP bQ
    rcases Bool.eq_false_or_eq_true (decide ((Nat.cast (R := Int) m) < (Nat.cast (R := Int) n)) : Bool) with h54 | h54
    · skip
      refine WK.segA ok 1000 0 [(35, RV.d (DV.bool false)), (51, RV.d (DV.int Go.IntKind.i64 (Nat.cast (R := Int) m))), (62, RV.d (DV.int Go.IntKind.i64 (Nat.cast (R := Int) dd))), (54, RV.d (DV.bool true))] [] [0, 1, 2, 6] [true, true, l.all isC, true, decide ((Nat.cast (R := Int) a) < (Nat.cast (R := Int) m)), decide ((Nat.cast (R := Int) m) < (Nat.cast (R := Int) n)), decide ((Nat.cast (R := Int) n) ≤ (Nat.cast (R := Int) l.length)), decide (l.length ≤ 65536), srtP l (Nat.cast (R := Int) a).toNat (Nat.cast (R := Int) m).toNat, srtP l (Nat.cast (R := Int) m).toNat (Nat.cast (R := Int) n).toNat, decide ((Nat.cast (R := Int) n) - (Nat.cast (R := Int) a) < Nat.cast (R := Int)  (65537))] [(RV.d (DV.bool (decide ((Nat.cast (R := Int) b) ≤ (Nat.cast (R := Int) n)))), RV.d (DV.bool false)), (RV.d (DV.int Go.IntKind.i64 (Go.IntKind.i64.wrap ((Nat.cast (R := Int) a) + (Nat.cast (R := Int) s)))), RV.d (DV.int Go.IntKind.i64 (Nat.cast (R := Int) m))), (RV.d (DV.bool (decide ((Nat.cast (R := Int) m) < (Nat.cast (R := Int) n)))), RV.d (DV.bool true)), (RV.d (DV.int Go.IntKind.i64 (Go.IntKind.i64.wrap ((Nat.cast (R := Int) s) * 2))), RV.d (DV.int Go.IntKind.i64 (Nat.cast (R := Int) dd)))] rfl (by kernel_rfl : runSegA (cfB ts4) 1000 0 _ _ _ _ (st3 l (n : Int) (s : Int) (a : Int) (b : Int)) = some (stackAt stC 1, st2 (symL l (Nat.cast (R := Int) a).toNat (Nat.cast (R := Int) m).toNat (Nat.cast (R := Int) n).toNat) (n : Int) (dd : Int), _, _)) (by refine ⟨?_, ?_, ?_, ?_, ?_, ?_, ?_, ?_, ?_, ?_, ?_, trivial⟩ <;> (first | rfl | exact hall | exact (hT1 h54).1 | exact (hT1 h54).2.1 | (have := hlt h54; exact decide_eq_true (by omega)) | exact decide_eq_true (by omega))) (by refine ⟨?_, ?_, le_bool h54, ?_, trivial⟩ <;> (first | exact le_bool hf | exact ov_add hm hm6 | exact ov_dbl2 hs2 hq6)) ?_
      try simp only [Int.toNat_natCast]
      first | exact (hT1 h54).2.2 | exact hT2 h54
    · skip
      refine WK.segA ok 1000 0 [(35, RV.d (DV.bool false)), (51, RV.d (DV.int Go.IntKind.i64 (Nat.cast (R := Int) m))), (62, RV.d (DV.int Go.IntKind.i64 (Nat.cast (R := Int) dd))), (54, RV.d (DV.bool false))] [] [0, 1, 2, 6] [] [(RV.d (DV.bool (decide ((Nat.cast (R := Int) b) ≤ (Nat.cast (R := Int) n)))), RV.d (DV.bool false)), (RV.d (DV.int Go.IntKind.i64 (Go.IntKind.i64.wrap ((Nat.cast (R := Int) a) + (Nat.cast (R := Int) s)))), RV.d (DV.int Go.IntKind.i64 (Nat.cast (R := Int) m))), (RV.d (DV.bool (decide ((Nat.cast (R := Int) m) < (Nat.cast (R := Int) n)))), RV.d (DV.bool false)), (RV.d (DV.int Go.IntKind.i64 (Go.IntKind.i64.wrap ((Nat.cast (R := Int) s) * 2))), RV.d (DV.int Go.IntKind.i64 (Nat.cast (R := Int) dd)))] rfl (by kernel_rfl : runSegA (cfB ts4) 1000 0 _ _ _ _ (st3 l (n : Int) (s : Int) (a : Int) (b : Int)) = some (stackAt stC 1, st2 l (n : Int) (dd : Int), _, _)) trivial (by refine ⟨?_, ?_, le_bool h54, ?_, trivial⟩ <;> (first | exact le_bool hf | exact ov_add hm hm6 | exact ov_dbl2 hs2 hq6)) ?_
      try simp only [Int.toNat_natCast]
      first | exact (hT1 h54).2.2 | exact hT2 h54
set_option maxHeartbeats 4000000 in
theorem st_outer (L0 : List Chg) (hok : okL L0) (hd : distB L0 = true) (n s : Nat) (hn : L0.length = n) (hs : 1 ≤ s) (hs6 : s ≤ 200000) (Q R : List Chg) (hp : (Q ++ R).Perm L0) (bQ : Blks s Q) (sR : Srt.srtB cmpC R = true) (lR : R.length < s) :
    WK Try.prog 1 (stackAt stC 1) (st2 ((Q ++ R).map chD) (n : Int) (s : Int)).den (EndsSt ((Srt.isort cmpC L0).map chD)) := by
  have ok := cfB_ok ts4_ok
  have hn6 : n ≤ 65536 := by have := hok.1; omega
  have key := WK.rec' (P := Try.prog) (m := 1) (k := stackAt stC 1) (Q := EndsSt ((Srt.isort cmpC L0).map chD)) (fun (q : Nat × List Chg × List Chg) => st2 ((q.2.1 ++ q.2.2).map chD) (n : Int) (q.1 : Int)) (fun q => 1 ≤ q.1 ∧ q.1 ≤ 200000 ∧ (q.2.1 ++ q.2.2).Perm L0 ∧ Blks q.1 q.2.1 ∧ Srt.srtB cmpC q.2.2 = true ∧ q.2.2.length < q.1) (fun q => n - q.1) ?_ (s, Q, R) ⟨hs, hs6, hp, bQ, sR, lR⟩
  · exact key
  clear hs hs6 hp bQ sR lR
  rintro ⟨s, Q, R⟩ ⟨hs, hs6, hp, bQ, sR, lR⟩ ih
  simp only at hs hs6 hp bQ sR lR ih ⊢
  have hlen : Q.length + R.length = n := by have := hp.length_eq; simp only [List.length_append] at this; omega
  have hT1 : decide ((Nat.cast (R := Int) s) < (Nat.cast (R := Int) n)) = true → _ := fun hc => by
    have hc' := of_decide_eq_true hc
    exact st_merge L0 hok hd n s hn hs (by omega) [] Q R hp .nil bQ sR lR (fun Q' R' g1 g2 g3 g4 => ih (2 * s, Q', R') ⟨by simp only; omega, by simp only; omega, g1, g2, g3, g4⟩ (by simp only; omega))
  have hT2 : decide ((Nat.cast (R := Int) s) < (Nat.cast (R := Int) n)) = false → (Q ++ R).map chD = (Srt.isort cmpC L0).map chD := fun hc => by
    have hc' := of_decide_eq_false hc
    congr 1
    refine isort_uniq ?_ hp hd
    rcases Nat.eq_zero_or_pos Q.length with h | h
    · rw [List.eq_nil_of_length_eq_zero h]; exact sR
    · obtain ⟨X, Q1, rfl, lX, sX, bQ1⟩ := bQ.split h
      simp only [List.length_append] at hlen
      have hQ1 := List.eq_nil_of_length_eq_zero (l := Q1) (by omega)
      have hR := List.eq_nil_of_length_eq_zero (l := R) (by omega)
      subst hQ1 hR
      simpa using sX
  obtain ⟨dd, hq'⟩ : ∃ dd, 2 * s = dd := ⟨_, rfl⟩
  simp only [List.nil_append, List.length_nil, Nat.zero_add, hq'] at hT1
  obtain ⟨T, hT⟩ : ∃ T, (Srt.isort cmpC L0).map chD = T := ⟨_, rfl⟩
  obtain ⟨l, hl⟩ : ∃ l, (Q ++ R).map chD = l := ⟨_, rfl⟩
  rw [hl, hT] at hT1 hT2 ⊢
  rcases Bool.eq_false_or_eq_true (decide ((Nat.cast (R := Int) s) < (Nat.cast (R := Int) n)) : Bool) with h30 | h30
  · skip
    refine WK.segA ok 1000 0 [(32, RV.d (DV.int Go.IntKind.i64 (Nat.cast (R := Int) dd))), (30, RV.d (DV.bool true))] [] [0, 1, 2, 6, 7, 8] [] [(RV.d (DV.bool (decide ((Nat.cast (R := Int) s) < (Nat.cast (R := Int) n)))), RV.d (DV.bool true)), (RV.d (DV.int Go.IntKind.i64 (Go.IntKind.i64.wrap (2 * (Nat.cast (R := Int) s)))), RV.d (DV.int Go.IntKind.i64 (Nat.cast (R := Int) dd)))] rfl (by kernel_rfl : runSegA (cfB ts4) 1000 0 _ _ _ _ (st2 l (n : Int) (s : Int)) = some (stackAt stC 2, st3 l (n : Int) (s : Int) 0 (dd : Int), _, _)) trivial ⟨le_bool h30, (by exact ov_dbl hq' (by omega)), trivial⟩ ?_
    exact hT1 h30
  · skip
    exact WK.fin ok 1000 0 [(32, RV.d (DV.int Go.IntKind.i64 (Nat.cast (R := Int) dd))), (30, RV.d (DV.bool false))] [] [(RV.d (DV.bool (decide ((Nat.cast (R := Int) s) < (Nat.cast (R := Int) n)))), RV.d (DV.bool false))] rfl (by kernel_rfl : runEnd (cfB ts4) false _ 1000 0 _ _ (st2 l (n : Int) (s : Int)) = some (RV.tup [], [PObj.arr 46 4 l], _, _)) trivial ⟨le_bool h30, trivial⟩ ⟨rfl, by rw [hT2 h30]; rfl⟩
set_option maxHeartbeats 4000000 in
theorem stable_c (L0 : List Chg) (hok : okL L0) (hd : distB L0 = true) :
    C Try.prog 88 [.own 0 4, .d (.int .i64 (L0.length : Int)), cmpv] (arC (L0.map chD)) (fun r o => r = .tup [] ∧ o = arC ((Srt.isort cmpC L0).map chD)) := by
  have ok := cfB_ok ts4_ok
  refine C_of_run (fn := Try.f88) (body := stC) false (by kernel_rfl) (by kernel_rfl) (by kernel_rfl) ?_
  obtain ⟨n, hn⟩ : ∃ n, L0.length = n := ⟨_, rfl⟩
  have hn6 : n ≤ 65536 := by have := hok.1; omega
  obtain ⟨T, hT⟩ : ∃ T, (Srt.isort cmpC L0).map chD = T := ⟨_, rfl⟩
  have hloop : WK Try.prog 1 (stackAt stC 0) (st1 (L0.map chD) (n : Int) 0 20).den (EndsSt T) := by
    have key := WK.rec' (P := Try.prog) (m := 1) (k := stackAt stC 0) (Q := EndsSt T) (fun (q : List Chg × List Chg) => st1 ((q.1 ++ q.2).map chD) (n : Int) (q.1.length : Int) ((q.1.length + 20 : Nat) : Int)) (fun q => (q.1 ++ q.2).Perm L0 ∧ Blks 20 q.1) (fun q => q.2.length) ?_ ([], L0) ⟨.refl _, .nil⟩
    · exact key
    rintro ⟨P, R⟩ ⟨hp, bP⟩ ih
    simp only at hp bP ih ⊢
    obtain ⟨a, ha⟩ : ∃ a, P.length = a := ⟨_, rfl⟩
    obtain ⟨b, hb⟩ : ∃ b, a + 20 = b := ⟨_, rfl⟩
    have hlen : a + R.length = n := by have := hp.length_eq; simp only [List.length_append] at this; omega
    have hokc : okL (P ++ R) := okL_perm hok hp
    have hall := all_isC hokc.2
    have hll : ((P ++ R).map chD).length = n := by simp only [List.length_map, List.length_append]; omega
    by_cases hbn : b ≤ n
    · have lt : (R.take 20).length = 20 := by rw [List.length_take]; omega
      have il := isort_len (R.take 20)
      have e1 : insL ((P ++ R).map chD) a b = ((P ++ Srt.isort cmpC (R.take 20)) ++ R.drop 20).map chD := by
        have := insL_eq P (R.take 20) (R.drop 20) (p := a) (q := b) ha.symm (by omega)
        rw [List.take_append_drop] at this
        rw [this]; simp
      have hw := ih (P ++ Srt.isort cmpC (R.take 20), R.drop 20) ⟨by
        refine List.Perm.trans ?_ hp
        rw [List.append_assoc]
        refine List.Perm.append_left _ ?_
        refine ((Srt.isort_ok preC (R.take 20)).2.append_right _).trans ?_
        rw [List.take_append_drop], bP.snoc (by omega) (Srt.isort_ok preC (R.take 20)).1⟩ (by simp only [List.length_drop]; omega)
      simp only [List.length_append, il, lt] at hw
      rw [ha, hb, ← e1] at hw
      obtain ⟨q, hq⟩ : ∃ q, b + 20 = q := ⟨_, rfl⟩
      rw [hq] at hw
      obtain ⟨l, hl⟩ : ∃ l, (P ++ R).map chD = l := ⟨_, rfl⟩
      rw [hl] at hall hll hw ⊢
      rw [ha, hb]
      clear ih hp hok hokc e1 hl hT bP
      refine WK.segA ok 1000 0 [(13, RV.d (DV.bool true)), (22, RV.d (DV.int Go.IntKind.i64 (Nat.cast (R := Int) q)))] [] [0, 1, 2, 6, 7, 8] [true, true, l.all isC, true, decide ((Nat.cast (R := Int) a) ≤ (Nat.cast (R := Int) b)), decide ((Nat.cast (R := Int) b) ≤ (Nat.cast (R := Int) l.length)), decide (l.length ≤ 65536)] [(RV.d (DV.bool (decide ((Nat.cast (R := Int) b) ≤ (Nat.cast (R := Int) n)))), RV.d (DV.bool true)), (RV.d (DV.int Go.IntKind.i64 (Go.IntKind.i64.wrap ((Nat.cast (R := Int) b) + 20))), RV.d (DV.int Go.IntKind.i64 (Nat.cast (R := Int) q)))] rfl (by kernel_rfl : runSegA (cfB ts4) 1000 0 _ _ _ _ (st1 l (n : Int) (a : Int) (b : Int)) = some (stackAt stC 0, st1 (insL l (Nat.cast (R := Int) a).toNat (Nat.cast (R := Int) b).toNat) (n : Int) (b : Int) (q : Int), _, _)) (by refine ⟨?_, ?_, ?_, ?_, ?_, ?_, ?_, trivial⟩ <;> (first | rfl | exact hall | exact decide_eq_true (by omega))) (by refine ⟨?_, ?_, trivial⟩ <;> (first | exact le_bool (decide_eq_true (by omega)) | exact ov_add20 (by omega) (by omega))) ?_
      simp only [Int.toNat_natCast]
      exact hw
    · have il := isort_len R
      have e1 : insL ((P ++ R).map chD) a n = (P ++ Srt.isort cmpC R).map chD := by
        have := insL_eq P R [] (p := a) (q := n) ha.symm (by omega)
        simpa using this
      have hw := st_outer L0 hok hd n 20 hn (by omega) (by omega) P (Srt.isort cmpC R) ((List.Perm.append_left _ (Srt.isort_ok preC R).2).trans hp) bP (Srt.isort_ok preC R).1 (by omega)
      rw [← e1, hT] at hw
      obtain ⟨l, hl⟩ : ∃ l, (P ++ R).map chD = l := ⟨_, rfl⟩
      rw [hl] at hall hll hw ⊢
      rw [ha, hb]
      have hf : decide ((Nat.cast (R := Int) b) ≤ (Nat.cast (R := Int) n)) = false := decide_eq_false (by omega)
      clear ih hp hok hokc e1 hl hT bP
      refine WK.segA ok 1000 0 [(13, RV.d (DV.bool false))] [] [0, 1, 2, 6] [true, true, l.all isC, true, decide ((Nat.cast (R := Int) a) ≤ (Nat.cast (R := Int) n)), decide ((Nat.cast (R := Int) n) ≤ (Nat.cast (R := Int) l.length)), decide (l.length ≤ 65536)] [(RV.d (DV.bool (decide ((Nat.cast (R := Int) b) ≤ (Nat.cast (R := Int) n)))), RV.d (DV.bool false))] rfl (by kernel_rfl : runSegA (cfB ts4) 1000 0 _ _ _ _ (st1 l (n : Int) (a : Int) (b : Int)) = some (stackAt stC 1, st2 (insL l (Nat.cast (R := Int) a).toNat (Nat.cast (R := Int) n).toNat) (n : Int) 20, _, _)) (by refine ⟨?_, ?_, ?_, ?_, ?_, ?_, ?_, trivial⟩ <;> (first | rfl | exact hall | exact decide_eq_true (by omega))) ⟨(by exact le_bool hf), trivial⟩ ?_
      simp only [Int.toNat_natCast]
      exact hw
  rw [hn, hT]
  obtain ⟨l, hl⟩ : ∃ l, L0.map chD = l := ⟨_, rfl⟩
  rw [hl] at hloop ⊢
  refine WK.segA ok 1000 0 [] [] [0, 1, 2, 6, 7, 8] [] [] rfl (by kernel_rfl : runSegA (cfB ts4) 1000 0 _ _ _ _ (ini 63 [.own 0 4, .d (.int .i64 (n : Int)), cmpv] (arC l)) = some (stackAt stC 0, st1 l (n : Int) 0 20, _, _)) trivial trivial ?_
  exact hloop
end Go.Proofs.Ytljfolepmkcjlaa

/-
  What a function leaves of an array that it was handed, as an array of its own: the first so many elements.
-/
namespace Go.Am
variable {P : Program}

/-- An answer that is the handed array, or its first part, is an array of its own; the handed one is gone. -/
theorem C.own1 {f : FuncId} {args : List RV} {ty sz : Nat} {els els1 : List DV} {v0 : RV} (h : C P f args [.arr ty sz els1] (fun r o => r = v0 ∧ o = [.arr ty sz els]))
    (k : Nat) (hk : k ≤ els.length) (hv : v0 = .sub 0 sz 0 k ∨ (v0 = .own 0 sz ∧ k = els.length)) :
    C P f args [.arr ty sz els1] (fun r o => r = .own 1 sz ∧ o = [.gone, .arr ty sz (els.take k)]) := by
  intro κ φ w vs h1 h2 h3 h4
  refine (h κ φ w vs h1 h2 h3 h4).mono ?_
  rintro e w' ⟨v, r, o, κ', φ', rfl, ⟨hr0, rfl⟩, g1, g2, g3, g4, g5, g6⟩
  rw [hr0] at g1
  have hu : ∀ i, 1 ≤ i → φ' i = .un := fun i hi => by
    have := g2 i
    rw [show tabOf [PObj.arr ty sz els] i = none by simp [tabOf]; omega] at this
    exact this
  have hp1 : (setP φ' 1 (φ' 0)) 1 = φ' 0 := setP_same _ _ _
  have hpo : ∀ i, i ≠ 1 → (setP φ' 1 (φ' 0)) i = φ' i := fun i hi => setP_ne _ _ hi
  have hlt : (els.take k).length = k := by rw [List.length_take]; omega
  have hkp : Kp φ (tabOf [.arr ty sz els1]) (setP φ' 1 (φ' 0)) (tabOf [.gone, .arr ty sz (els.take k)]) := by
    have u1 : φ 1 = .un := by have := h1 1; exact this
    refine ⟨fun i hi => ?_, fun i n hi hn => ?_⟩
    · have : i ≠ 1 := fun e => by subst e; exact hi u1
      rw [hpo i this]; exact g6.phi i hi
    · match i, hn with
      | 0, hn => simp [tabOf, PObj.len?] at hn
      | 1, _ => exact absurd u1 hi
      | i + 2, hn => simp [tabOf, PObj.len?] at hn
  -- the block that the array lies in, if it has one
  have g20 := g2 0
  simp only [tabOf, List.getElem?_cons_zero] at g20
  rcases g20 with ⟨n1, n2⟩ | ⟨b, c, fz, a1, a2, a3, a4, a5⟩
  · -- nothing in it
    subst n2
    have hk0 : k = 0 := by simpa using hk
    subst hk0
    have key : ∀ {base : Option Addr}, RVR κ' (setP φ' 1 (φ' 0)) (tabOf [.gone, .arr ty sz (([] : List DV).take 0)]) w'.heap (.own 1 sz) (.slice base 0 0) := .ownNil (by rw [hp1]; exact n1)
    have hval : ∃ base, v = .slice base 0 0 := by
      rcases hv with rfl | ⟨rfl, _⟩
      · cases g1 with
        | sub hφ => rw [n1] at hφ; cases hφ
        | sub0 => exact ⟨_, rfl⟩
      · cases g1 with
        | own hφ => rw [n1] at hφ; cases hφ
        | ownNil => exact ⟨_, rfl⟩
    obtain ⟨base, rfl⟩ := hval
    refine ⟨_, .own 1 sz, [.gone, .arr ty sz (([] : List DV).take 0)], κ', setP φ' 1 (φ' 0), rfl, ⟨rfl, rfl⟩, key, fun i => ?_, g3, by simp, g5, hkp⟩
    match i with
    | 0 => exact trivial
    | 1 => exact .inl ⟨by rw [hp1]; exact n1, rfl⟩
    | i + 2 => show setP φ' 1 (φ' 0) (i + 2) = .un; rw [hpo _ (by omega)]; exact hu _ (by omega)
  · by_cases hsub0 : v0 = .sub 0 sz 0 0 ∧ ∃ base, v = .slice base 0 0
    · -- a part with nothing in it
      obtain ⟨rfl, base, rfl⟩ := hsub0
      have hk0 : k = 0 := by
        rcases hv with hv | ⟨hv, _⟩
        · injection hv with _ _ _ e; exact e.symm
        · cases hv
      subst hk0
      refine ⟨_, .own 1 sz, [.gone, .arr ty sz (els.take 0)], κ', setP φ' 1 .nil, rfl, ⟨rfl, rfl⟩, .ownNil (setP_same _ _ _), fun i => ?_, g3, by simp, g5, ?_⟩
      · match i with
        | 0 => exact trivial
        | 1 => exact .inl ⟨setP_same _ _ _, by simp⟩
        | i + 2 => show setP φ' 1 .nil (i + 2) = .un; rw [setP_ne _ _ (by omega)]; exact hu _ (by omega)
      · have u1 : φ 1 = .un := by have := h1 1; exact this
        refine ⟨fun i hi => ?_, fun i n hi hn => ?_⟩
        · have : i ≠ 1 := fun e => by subst e; exact hi u1
          rw [setP_ne _ _ this]; exact g6.phi i hi
        · match i, hn with
          | 0, hn => simp [tabOf, PObj.len?] at hn
          | 1, _ => exact absurd u1 hi
          | i + 2, hn => simp [tabOf, PObj.len?] at hn
    · have hval : ∃ cap, v = .slice (some ⟨b, 0, none⟩) k cap ∧ cap * sz ≤ c.size ∧ k ≤ cap := by
        rcases hv with rfl | ⟨rfl, hke⟩
        · cases g1 with
          | sub hφ hb hcap hlc =>
            rw [a1] at hφ; injection hφ with hφ; subst hφ
            rw [a3] at hb; injection hb with hb; injection hb with e1 e2 e3; subst e1
            rw [Nat.zero_mul]
            exact ⟨_, rfl, by simpa using hcap, hlc⟩
          | sub0 => exact absurd ⟨rfl, _, rfl⟩ hsub0
        · cases g1 with
          | own hφ hb hcap hlc hlen =>
            rw [a1] at hφ; injection hφ with hφ; subst hφ
            rw [a3] at hb; injection hb with hb; injection hb with e1 e2 e3; subst e1
            have := hlen els.length rfl
            subst this
            subst hke
            exact ⟨_, rfl, hcap, hlc⟩
          | ownNil hφ => rw [a1] at hφ; cases hφ
      obtain ⟨cap, rfl, v1, v2⟩ := hval
      have hne : ∀ x, κ' x = .imm → x ≠ b := fun x hx e => by subst e; rw [a2] at hx; cases hx
      have him : ∀ x, κ' x = .imm → setK κ' b (.own 1) x = .imm := fun x hx => by unfold setK; rw [if_neg (hne x hx)]; exact hx
      refine ⟨_, .own 1 sz, [.gone, .arr ty sz (els.take k)], setK κ' b (.own 1), setP φ' 1 (φ' 0), rfl, ⟨rfl, rfl⟩, ?_, fun i => ?_, fun x hx => ?_, by simp, ?_, hkp⟩
      · exact .own (by rw [hp1]; exact a1) a3 v1 v2 (fun n hn => by simp only [tabOf, List.getElem?_cons_succ, List.getElem?_cons_zero, PObj.len?, Option.some.injEq] at hn; omega)
      · match i with
        | 0 => exact trivial
        | 1 =>
          refine .inr ⟨b, c, fz, by rw [hp1]; exact a1, by unfold setK; rw [if_pos rfl], a3, a4, ?_⟩
          obtain ⟨e1, e2, e3⟩ := a5
          refine ⟨fun x hx => e1 x (List.mem_of_mem_take hx), ?_, fun i x j y u hx hy hu => ?_⟩
          · have := Nat.mul_le_mul_right sz hk
            rw [hlt]; omega
          · rw [List.getElem?_take] at hx
            split at hx
            · exact (e3 i x j y u hx hy hu).mono fun z hz => ⟨him z hz, rfl⟩
            · cases hx
        | i + 2 => show setP φ' 1 (φ' 0) (i + 2) = .un; rw [hpo _ (by omega)]; exact hu _ (by omega)
      · by_cases e : x = b
        · subst e
          exact (Array.getElem?_eq_some_iff.1 a3).1
        · unfold setK at hx; rw [if_neg e] at hx; exact g3 x hx
      · refine ⟨g5.size, fun x hx => ?_, fun x hxl hx => ?_, g5.shp, g5.os, g5.out⟩
        · exact ⟨him x (g5.imm x hx).1, (g5.imm x hx).2⟩
        · have := g5.oth x hxl hx
          refine ⟨?_, this.2⟩
          unfold setK
          rw [if_neg (fun e => by subst e; rw [a2] at this; cases this.1)]
          exact this.1
end Go.Am

/-
  Sorting in place, and what is none taken out, run.
-/
namespace Go.Proofs.Ytljfolepmkcjlaa
open Go.RowKit Plain Am IntWalk
set_option maxRecDepth 100000
set_option linter.unusedVariables false
set_option linter.unusedSimpArgs false

noncomputable abbrev ixC : Code := bodyOf Try.f87
noncomputable abbrev deC : Code := bodyOf Try.f72
noncomputable abbrev m1C : Code := bodyOf Try.f73
def delv : RV := .clo (.func 73) [] []
def ix1 (l : List DV) (n i : Int) : ESt := { n := 19, m := 1, regs := T.mk [(0, .own 0 4), (1, delv), (7, .d (.int .i64 n)), (8, .d (.int .i64 i))], objs := T.mk [(0, .arr 46 4 l)] }
def de1 (l : List DV) (i j : Int) : ESt := { n := 42, m := 1, regs := T.mk [(0, .own 0 4), (1, delv), (5, .d (.int .i64 i)), (6, .d (.int .i64 j))], objs := T.mk [(0, .arr 46 4 l)] }
/-- is a change none? -/
def nilB (x : Chg) : Bool := decide (x.o = x.n)
def nilG : DV → Option (DV × List Bool) := fun x => some (.bool (nilB (toChg x)), [isC x])
def idxC (L : List Chg) : Int := match L.findIdx? nilB with
  | some i => (i : Int)
  | none => -1
def idxE : Ent := fun a o => match a, o with
  | [.own 0 4, .clo (.func f) [] []], [.arr T 4 els] => some (.d (.int .i64 (idxC (els.map toChg))), [.arr T 4 els], [Nat.beq T chT, Nat.beq f 73, els.all isC, decide (els.length ≤ 65536)])
  | _, _ => none
def stbE : Ent := fun a o => match a, o with
  | [.own 0 4, .d (.int .i64 n), .clo (.func f) [] []], [.arr T 4 els] => some (.tup [], [.arr T 4 ((Srt.isort cmpC (els.map toChg)).map chD)], [Nat.beq T chT, Nat.beq f 39, els.all isC, decide (n = els.length), decide (els.length ≤ 65536), distB (els.map toChg)])
  | _, _ => none
theorem nil_c (x : Chg) (hx : Chg.ok x) : C Try.prog 73 [.d (chD x)] [] (fun r o => r = .d (.bool (nilB x)) ∧ o = []) := by
  have ok := cfT_ok t3_ok
  refine C_of_run (fn := Try.f73) (body := m1C) true (by kernel_rfl) (by kernel_rfl) (by kernel_rfl) ?_
  exact WK.fin ok 1000 0 [] [decide ((List.map vD x.o).length ≤ 65536) && (List.map vD x.3).all isVal && true && true, decide ((List.map vD x.n).length ≤ 65536) && (List.map vD x.4).all isVal && true && true] [] rfl (by kernel_rfl : runEnd (cfT t3) true _ 1000 0 _ _ (ini 8 [.d (chD x)] []) = some (RV.d (DV.bool (decide (unR (rD x.o) = unR (rD x.n)))), [], _, _)) (by refine ⟨?_, ?_, trivial⟩ <;> (first | exact ok_o hx | exact ok_n hx)) trivial ⟨by rw [unR_rD, unR_rD]; rfl, rfl⟩
theorem nil_ent : EntOk Try.prog 73 (e1 nilG) := by
  refine e1_ok fun x y c hg hc => ?_
  simp only [nilG, Option.some.injEq, Prod.mk.injEq] at hg
  obtain ⟨rfl, rfl⟩ := hg
  obtain ⟨a, rfl, wa⟩ := isC_spec (hc (isC x) (by simp))
  rw [toChg_chD]
  exact nil_c a wa
theorem stb_ent : EntOk Try.prog 88 stbE := by
  intro a o r o' c hg hc
  unfold stbE at hg
  split at hg
  · rename_i n f T els
    simp only [Option.some.injEq, Prod.mk.injEq] at hg
    obtain ⟨rfl, rfl, rfl⟩ := hg
    have hT := nbE (hc (Nat.beq T chT) (by simp))
    have hF := nbE (hc (Nat.beq f 39) (by simp))
    have h1 := hc (els.all isC) (by simp)
    have h2 := of_decide_eq_true (hc (decide (n = els.length)) (by simp))
    have h6 := of_decide_eq_true (hc (decide (els.length ≤ 65536)) (by simp))
    have h7 := hc (distB (els.map toChg)) (by simp)
    subst hT hF h2
    obtain ⟨L, rfl, hLok⟩ := els_of h1 h6
    rw [unL_map] at h7 ⊢
    have := stable_c L hLok h7
    rw [List.length_map]
    exact this
  · cases hg
/-- the entry of sorting -/
def srtE : Ent := fun a o => match a, o with
  | [.own 0 4, .clo (.func f) [] []], [.arr T 4 els] => some (.tup [], [.arr T 4 ((Srt.isort cmpC (els.map toChg)).map chD)], [Nat.beq T chT, Nat.beq f 39, els.all isC, decide (els.length ≤ 65536), distB (els.map toChg)])
  | _, _ => none
theorem ts5s_ok : EntsOk Try.prog [(88, stbE)] := .cons stb_ent .nil
theorem srt_ent : EntOk Try.prog 74 srtE := by
  intro a o r o' c hg hc
  unfold srtE at hg
  split at hg
  · rename_i f T els
    simp only [Option.some.injEq, Prod.mk.injEq] at hg
    obtain ⟨rfl, rfl, rfl⟩ := hg
    have hT := nbE (hc (Nat.beq T chT) (by simp))
    have hF := nbE (hc (Nat.beq f 39) (by simp))
    have h1 := hc (els.all isC) (by simp)
    have h6 := hc (decide (els.length ≤ 65536)) (by simp)
    have h7 := hc (distB (els.map toChg)) (by simp)
    subst hT hF
    have ok := cfB_ok ts5s_ok
    refine C_of_run (fn := Try.f74) (body := bodyOf Try.f74) false (by kernel_rfl) (by kernel_rfl) (by kernel_rfl) ?_
    exact WK.fin ok 1000 0 [] [true, true, els.all isC, decide ((els.length : Int) = els.length), decide (els.length ≤ 65536), distB (els.map toChg)] [] rfl (by kernel_rfl : runEnd (cfB [(88, stbE)]) false _ 1000 0 _ _ (ini 9 [.own 0 4, cmpv] (arC els)) = some (.tup [], [.arr chT 4 ((Srt.isort cmpC (els.map toChg)).map chD)], _, _)) ⟨rfl, rfl, h1, decide_eq_true rfl, h6, h7, trivial⟩ trivial ⟨rfl, rfl⟩
  · cases hg
theorem ov_N {x : Chg} {b : Bool} (h : nilB x = b) : RVle (.d (.bool (nilB (toChg (chD x))))) (.d (.bool b)) := .of_eq (by rw [toChg_chD, h])
noncomputable def ts5a : List (Nat × Ent) := [(73, e1 nilG)]
noncomputable def ts5b : List (Nat × Ent) := [(73, e1 nilG), (87, idxE)]
theorem ts5a_ok : EntsOk Try.prog ts5a := .cons nil_ent .nil
set_option maxHeartbeats 2000000 in
theorem idx_c (L : List Chg) (hok : okL L) : C Try.prog 87 [.own 0 4, delv] (arC (L.map chD)) (fun r o => r = .d (.int .i64 (idxC L)) ∧ o = arC (L.map chD)) := by
  have ok := cfB_ok ts5a_ok
  refine C_of_run (fn := Try.f87) (body := ixC) false (by kernel_rfl) (by kernel_rfl) (by kernel_rfl) ?_
  obtain ⟨n, hn⟩ : ∃ n, L.length = n := ⟨_, rfl⟩
  have hn6 : n ≤ 65536 := by have := hok.1; omega
  have hloop : WK Try.prog 1 (stackAt ixC 0) (ix1 (L.map chD) (n : Int) 0).den (fun s => ∃ r objs' c, finish (Env.of Try.prog) false 1 (Try.f87.results.toList) s.R s.O = some (r, objs', c) ∧ (∀ b ∈ c, b = true) ∧ r = .d (.int .i64 (idxC L)) ∧ objs' = arC (L.map chD)) := by
    refine WK.rec' (P := Try.prog) (m := 1) (k := stackAt ixC 0) (fun (i : Nat) => ix1 (L.map chD) (n : Int) (i : Int)) (fun i => i ≤ n ∧ ∀ j x, j < i → L[j]? = some x → nilB x = false) (fun i => n - i) ?_ 0 ⟨Nat.zero_le _, by intro j x h; omega⟩
    rintro i ⟨hi, hpre⟩ ih
    by_cases hlt : i < n
    · obtain ⟨x, hx⟩ : ∃ x, L[i]'(by omega) = x := ⟨_, rfl⟩
      have gx : L[i]? = some x := by rw [List.getElem?_eq_getElem (by omega), hx]
      have hxo : Chg.ok x := hok.2 x (List.mem_of_getElem? gx)
      have bx1 := bd_in gx
      have bx2 := bd_in2 gx
      have bx3 := bd_ble gx
      have bx4 := ov_load gx
      rcases Bool.eq_false_or_eq_true (nilB x) with hb | hb
      · have e : idxC L = i := by
          unfold idxC
          have : L.findIdx? nilB = some i := by
            rw [List.findIdx?_eq_some_iff_getElem]
            refine ⟨by omega, by rw [hx]; exact hb, fun j hj => ?_⟩
            have := hpre j (L[j]'(by omega)) hj (List.getElem?_eq_getElem (by omega))
            simpa using this
          rw [this]
        rw [e]
        obtain ⟨l, hl⟩ : ∃ l, L.map chD = l := ⟨_, rfl⟩
        rw [hl] at bx1 bx2 bx3 bx4 ⊢
        exact WK.fin ok 1000 0 [(9, RV.d (DV.bool true)), (15, RV.d (DV.agg [DV.str x.1, DV.lst 3 (List.map vD x.2) false, DV.lst 3 (List.map vD x.3) false, DV.lst 3 (List.map vD x.4) false])), (18, RV.d (DV.int Go.IntKind.i64 (Nat.cast (R := Int) (i + 1)))), (16, RV.d (DV.bool true))] [decide (0 ≤ (Nat.cast (R := Int) i) ∧ (Nat.cast (R := Int) i) < (Nat.cast (R := Int) l.length)), decide ((Nat.cast (R := Int) i).toNat < l.length), Nat.ble 4 (l.getD (Nat.cast (R := Int) i).toNat DV.nilp).cells.length, isC (DV.agg [DV.str x.1, DV.lst 3 (List.map vD x.2) false, DV.lst 3 (List.map vD x.3) false, DV.lst 3 (List.map vD x.4) false])] [(RV.d (DV.bool (decide ((Nat.cast (R := Int) i) < (Nat.cast (R := Int) n)))), RV.d (DV.bool true)), (RV.d (DV.agg (List.take 4 (List.drop 0 (l.getD (Nat.cast (R := Int) i).toNat DV.nilp).cells))), RV.d (DV.agg [DV.str x.1, DV.lst 3 (List.map vD x.2) false, DV.lst 3 (List.map vD x.3) false, DV.lst 3 (List.map vD x.4) false])), (RV.d (DV.bool (nilB { t := x.1, k := List.map toVal (List.map vD x.k), o := List.map toVal (List.map vD x.o), n := List.map toVal (List.map vD x.n) })), RV.d (DV.bool true))] rfl (by kernel_rfl : runEnd (cfB ts5a) false _ 1000 0 _ _ (ix1 l (n : Int) (i : Int)) = some (RV.d (DV.int Go.IntKind.i64 (Nat.cast (R := Int) i)), [PObj.arr 46 4 l], _, _)) (by refine ⟨?_, ?_, ?_, ?_, trivial⟩ <;> (first | exact bx1 | exact bx2 | exact bx3 | exact isC_chD hxo)) (by refine ⟨?_, ?_, ?_, trivial⟩ <;> (first | exact le_bool (decide_eq_true (by omega)) | exact bx4 | exact ov_N hb)) ⟨rfl, rfl⟩
      · have hw := ih (i + 1) ⟨hlt, fun j y hj hy => by
          by_cases e : j = i
          · subst e; rw [gx] at hy; injection hy with hy; subst hy; exact hb
          · exact hpre j y (by omega) hy⟩ (by omega)
        obtain ⟨l, hl⟩ : ∃ l, L.map chD = l := ⟨_, rfl⟩
        rw [hl] at bx1 bx2 bx3 bx4 hw ⊢
        refine WK.segA ok 1000 0 [(9, RV.d (DV.bool true)), (15, RV.d (DV.agg [DV.str x.1, DV.lst 3 (List.map vD x.2) false, DV.lst 3 (List.map vD x.3) false, DV.lst 3 (List.map vD x.4) false])), (18, RV.d (DV.int Go.IntKind.i64 (Nat.cast (R := Int) (i + 1)))), (16, RV.d (DV.bool false))] [] [0, 1, 7, 8] [decide (0 ≤ (Nat.cast (R := Int) i) ∧ (Nat.cast (R := Int) i) < (Nat.cast (R := Int) l.length)), decide ((Nat.cast (R := Int) i).toNat < l.length), Nat.ble 4 (l.getD (Nat.cast (R := Int) i).toNat DV.nilp).cells.length, isC (DV.agg [DV.str x.1, DV.lst 3 (List.map vD x.2) false, DV.lst 3 (List.map vD x.3) false, DV.lst 3 (List.map vD x.4) false])] [(RV.d (DV.bool (decide ((Nat.cast (R := Int) i) < (Nat.cast (R := Int) n)))), RV.d (DV.bool true)), (RV.d (DV.agg (List.take 4 (List.drop 0 (l.getD (Nat.cast (R := Int) i).toNat DV.nilp).cells))), RV.d (DV.agg [DV.str x.1, DV.lst 3 (List.map vD x.2) false, DV.lst 3 (List.map vD x.3) false, DV.lst 3 (List.map vD x.4) false])), (RV.d (DV.bool (nilB { t := x.1, k := List.map toVal (List.map vD x.k), o := List.map toVal (List.map vD x.o), n := List.map toVal (List.map vD x.n) })), RV.d (DV.bool false)), (RV.d (DV.int Go.IntKind.i64 (Go.IntKind.i64.wrap ((Nat.cast (R := Int) i) + 1))), RV.d (DV.int Go.IntKind.i64 (Nat.cast (R := Int) (i + 1))))] rfl (by kernel_rfl : runSegA (cfB ts5a) 1000 0 _ _ _ _ (ix1 l (n : Int) (i : Int)) = some (stackAt ixC 0, ix1 l (n : Int) ((i + 1 : Nat) : Int), _, _)) (by refine ⟨?_, ?_, ?_, ?_, trivial⟩ <;> (first | exact bx1 | exact bx2 | exact bx3 | exact isC_chD hxo)) (by refine ⟨?_, ?_, ?_, ?_, trivial⟩ <;> (first | exact le_bool (decide_eq_true (by omega)) | exact bx4 | exact ov_N hb | exact ov_succ (by omega))) ?_
        exact hw
    · have e : idxC L = -1 := by
        unfold idxC
        have : L.findIdx? nilB = none := by
          rw [List.findIdx?_eq_none_iff]
          intro y hy
          obtain ⟨j, hj⟩ := List.getElem?_of_mem hy
          exact hpre j y (by have := (List.getElem?_eq_some_iff.1 hj).1; omega) hj
        rw [this]
      rw [e]
      obtain ⟨l, hl⟩ : ∃ l, L.map chD = l := ⟨_, rfl⟩
      rw [hl]
      exact WK.fin ok 1000 0 [(9, RV.d (DV.bool false))] [] [(RV.d (DV.bool (decide ((Nat.cast (R := Int) i) < (Nat.cast (R := Int) n)))), RV.d (DV.bool false))] rfl (by kernel_rfl : runEnd (cfB ts5a) false _ 1000 0 _ _ (ix1 l (n : Int) (i : Int)) = some (RV.d (DV.int Go.IntKind.i64 (-1)), [PObj.arr 46 4 l], _, _)) trivial ⟨(by exact le_bool (decide_eq_false (by omega))), trivial⟩ ⟨rfl, rfl⟩
  have hll : (L.map chD).length = n := by rw [List.length_map, hn]
  obtain ⟨l, hl⟩ : ∃ l, L.map chD = l := ⟨_, rfl⟩
  rw [hl] at hloop hll ⊢
  refine WK.segA ok 1000 0 [] [] [0, 1, 7, 8] [] [] rfl (by kernel_rfl : runSegA (cfB ts5a) 1000 0 _ _ _ _ (ini 19 [.own 0 4, delv] (arC l)) = some (stackAt ixC 0, ix1 l (l.length : Int) 0, _, _)) trivial trivial ?_
  rw [hll]; exact hloop
theorem idx_ent : EntOk Try.prog 87 idxE := by
  intro a o r o' c hg hc
  unfold idxE at hg
  split at hg
  · rename_i f T els
    simp only [Option.some.injEq, Prod.mk.injEq] at hg
    obtain ⟨rfl, rfl, rfl⟩ := hg
    have hT := nbE (hc (Nat.beq T chT) (by simp))
    have hF := nbE (hc (Nat.beq f 73) (by simp))
    have h1 := hc (els.all isC) (by simp)
    have h6 := of_decide_eq_true (hc (decide (els.length ≤ 65536)) (by simp))
    subst hT hF
    obtain ⟨L, rfl, hLok⟩ := els_of h1 h6
    rw [unL_map]
    exact idx_c L hLok
  · cases hg
theorem ts5b_ok : EntsOk Try.prog ts5b := .cons nil_ent (.cons idx_ent .nil)
def zD : DV := .agg [.str [], .lst 0 [] true, .lst 0 [] true, .lst 0 [] true]
def clr (l : List DV) (i n : Nat) : List DV := l.take i ++ List.replicate (n - i) zD ++ l.drop (i + (n - i))
theorem live_nil {L : List Chg} (h : ∀ x ∈ L, nilB x = false) : live L = L := by
  unfold live; rw [List.filter_eq_self]
  intro x hx; have := h x hx; unfold nilB at this; rw [this]; rfl
theorem live_snoc (L : List Chg) (x : Chg) : live (L ++ [x]) = live L ++ (if nilB x = true then [] else [x]) := by
  unfold live; rw [List.filter_append]; congr 1
  unfold nilB
  by_cases h : x.o = x.n
  · simp [h]
  · simp [h]
abbrev EndsD (n : Nat) (l : List DV) (k : Nat) : SSt → Prop := fun s => ∃ r objs' c, finish (Env.of Try.prog) false 1 (Try.f72.results.toList) s.R s.O = some (r, objs', c) ∧ (∀ b ∈ c, b = true) ∧ r = .sub 0 4 0 k ∧ objs' = arC l
set_option maxHeartbeats 2000000 in
theorem de_loop (L : List Chg) (hok : okL L) (n : Nat) (hn : L.length = n) (j : Nat) (G : List Chg) (hj : j ≤ n) (hG : (live (L.take j)).length + G.length = j) :
    WK Try.prog 1 (stackAt deC 0) (de1 ((live (L.take j) ++ (G ++ L.drop j)).map chD) ((live (L.take j)).length : Int) (j : Int)).den (EndsD n ((live L).map chD ++ List.replicate (n - (live L).length) zD) (live L).length) := by
  have ok := cfB_ok ts5b_ok
  have hn6 : n ≤ 65536 := by have := hok.1; omega
  refine WK.rec' (P := Try.prog) (m := 1) (k := stackAt deC 0) (fun (q : Nat × List Chg) => de1 ((live (L.take q.1) ++ (q.2 ++ L.drop q.1)).map chD) ((live (L.take q.1)).length : Int) (q.1 : Int)) (fun q => q.1 ≤ n ∧ (live (L.take q.1)).length + q.2.length = q.1) (fun q => n - q.1) ?_ (j, G) ⟨hj, hG⟩
  clear hj hG j G
  rintro ⟨j, G⟩ ⟨hj, hG⟩ ih
  simp only at hj hG ih ⊢
  obtain ⟨i, hi⟩ : ∃ i, (live (L.take j)).length = i := ⟨_, rfl⟩
  have hll : ((live (L.take j) ++ (G ++ L.drop j)).map chD).length = n := by simp only [List.length_map, List.length_append, List.length_drop]; omega
  by_cases hlt : j < n
  · obtain ⟨x, hx⟩ : ∃ x, L[j]'(by omega) = x := ⟨_, rfl⟩
    have gx0 : L[j]? = some x := by rw [List.getElem?_eq_getElem (by omega), hx]
    have ex : L.drop j = x :: L.drop (j + 1) := by rw [List.drop_eq_getElem_cons (by omega), hx]
    have tx : L.take (j + 1) = L.take j ++ [x] := by rw [List.take_add_one, List.getElem?_eq_getElem (by omega), hx]; rfl
    have hxo : Chg.ok x := hok.2 x (List.mem_of_getElem? gx0)
    have gx : (live (L.take j) ++ (G ++ L.drop j))[j]? = some x := by
      rw [ex, ← List.append_assoc]; exact get_mid _ _ _ _ (by simp; omega)
    have bx1 := bd_in gx
    have bx2 := bd_in2 gx
    have bx3 := bd_ble gx
    have bx4 := ov_load gx
    have hA : (!nilB x) = true → ∃ G2 : List Chg, (live (L.take j) ++ (G ++ L.drop j)).set i x = live (L.take (j + 1)) ++ (G2 ++ L.drop (j + 1)) ∧ (live (L.take (j + 1))).length = i + 1 ∧ (live (L.take (j + 1))).length + G2.length = j + 1 := fun hb => by
      have hb' : nilB x = false := by simpa using hb
      have el : live (L.take (j + 1)) = live (L.take j) ++ [x] := by rw [tx, live_snoc, if_neg (by simp [hb'])]
      cases G with
      | nil =>
        refine ⟨[], ?_, by rw [el]; simp; omega, by rw [el]; simp at hG ⊢; omega⟩
        rw [ex, el, List.nil_append, set_mid _ _ _ _ _ hi.symm]
        simp
      | cons g G' =>
        refine ⟨G' ++ [x], ?_, by rw [el]; simp; omega, by rw [el]; simp at hG ⊢; omega⟩
        rw [ex, el, List.cons_append, set_mid _ _ _ _ _ hi.symm]
        simp
    have hB : (!nilB x) = false → live (L.take j) ++ (G ++ L.drop j) = live (L.take (j + 1)) ++ ((G ++ [x]) ++ L.drop (j + 1)) ∧ (live (L.take (j + 1))).length = i ∧ (live (L.take (j + 1))).length + (G ++ [x]).length = j + 1 := fun hb => by
      have hb' : nilB x = true := by simpa using hb
      have el : live (L.take (j + 1)) = live (L.take j) := by rw [tx, live_snoc, if_pos hb', List.append_nil]
      refine ⟨by rw [ex, el]; simp, by rw [el]; exact hi, by rw [el]; simp; omega⟩
    have hA2 : (!nilB x) = true → WK Try.prog 1 (stackAt deC 0) (de1 (((live (L.take j) ++ (G ++ L.drop j)).map chD).set i (chD x)) ((i + 1 : Nat) : Int) ((j + 1 : Nat) : Int)).den (EndsD n ((live L).map chD ++ List.replicate (n - (live L).length) zD) (live L).length) := fun hb => by
      obtain ⟨G2, h1, h2, h3⟩ := hA hb
      have := ih (j + 1, G2) ⟨hlt, h3⟩ (by simp only; omega)
      simp only [h2] at this
      rw [map_set', h1]
      exact this
    have hB2 : (!nilB x) = false → WK Try.prog 1 (stackAt deC 0) (de1 ((live (L.take j) ++ (G ++ L.drop j)).map chD) (i : Int) ((j + 1 : Nat) : Int)).den (EndsD n ((live L).map chD ++ List.replicate (n - (live L).length) zD) (live L).length) := fun hb => by
      obtain ⟨h1, h2, h3⟩ := hB hb
      have := ih (j + 1, G ++ [x]) ⟨hlt, h3⟩ (by simp only; omega)
      simp only [h2] at this
      rw [h1]
      exact this
    have hnb : ∀ {b : Bool}, (!nilB x) = b → RVle (.d (.bool (nilB (toChg (chD x))))) (.d (.bool (nilB x))) := fun _ => .of_eq (by rw [toChg_chD])
    obtain ⟨k, hk⟩ : ∃ k, (live L).length = k := ⟨_, rfl⟩
    obtain ⟨T, hT⟩ : ∃ T, (live L).map chD ++ List.replicate (n - (live L).length) zD = T := ⟨_, rfl⟩
    obtain ⟨l, hl⟩ : ∃ l, (live (L.take j) ++ (G ++ L.drop j)).map chD = l := ⟨_, rfl⟩
    rw [hl] at bx1 bx2 bx3 bx4 hll
    rw [hl, hT, hk] at hA2 hB2
    rw [hl, hT, hi, hk]
    clear ih hA hB
    rcases Bool.eq_false_or_eq_true (!nilB x : Bool) with h29 | h29
    · skip
      refine WK.segA ok 1000 0 [(19, RV.d (DV.bool true)), (25, RV.d (DV.agg [DV.str x.1, DV.lst 3 (List.map vD x.2) false, DV.lst 3 (List.map vD x.3) false, DV.lst 3 (List.map vD x.4) false])), (28, RV.d (DV.bool (nilB x))), (21, RV.d (DV.int Go.IntKind.i64 (Nat.cast (R := Int) (j + 1)))), (35, RV.d (DV.int Go.IntKind.i64 (Nat.cast (R := Int) (i + 1)))), (29, RV.d (DV.bool true))] [] [0, 1, 5, 6] [decide (0 ≤ (Nat.cast (R := Int) j) ∧ (Nat.cast (R := Int) j) < (Nat.cast (R := Int) l.length)), decide ((Nat.cast (R := Int) j).toNat < l.length), Nat.ble 4 (l.getD (Nat.cast (R := Int) j).toNat DV.nilp).cells.length, isC (DV.agg [DV.str x.1, DV.lst 3 (List.map vD x.2) false, DV.lst 3 (List.map vD x.3) false, DV.lst 3 (List.map vD x.4) false]), decide (0 ≤ (Nat.cast (R := Int) i) ∧ (Nat.cast (R := Int) i) < (Nat.cast (R := Int) l.length)), decide ((Nat.cast (R := Int) i).toNat < l.length)] [(RV.d (DV.bool (decide ((Nat.cast (R := Int) j) < (Nat.cast (R := Int) l.length)))), RV.d (DV.bool true)), (RV.d (DV.agg (List.take 4 (List.drop 0 (l.getD (Nat.cast (R := Int) j).toNat DV.nilp).cells))), RV.d (DV.agg [DV.str x.1, DV.lst 3 (List.map vD x.2) false, DV.lst 3 (List.map vD x.3) false, DV.lst 3 (List.map vD x.4) false])), (RV.d (DV.bool (nilB { t := x.1, k := List.map toVal (List.map vD x.k), o := List.map toVal (List.map vD x.o), n := List.map toVal (List.map vD x.n) })), RV.d (DV.bool (nilB x))), (RV.d (DV.bool !nilB x), RV.d (DV.bool true)), (RV.d (DV.int Go.IntKind.i64 (Go.IntKind.i64.wrap ((Nat.cast (R := Int) i) + 1))), RV.d (DV.int Go.IntKind.i64 (Nat.cast (R := Int) (i + 1)))), (RV.d (DV.int Go.IntKind.i64 (Go.IntKind.i64.wrap ((Nat.cast (R := Int) j) + 1))), RV.d (DV.int Go.IntKind.i64 (Nat.cast (R := Int) (j + 1))))] rfl (by kernel_rfl : runSegA (cfB ts5b) 1000 0 _ _ _ _ (de1 l (i : Int) (j : Int)) = some (stackAt deC 0, de1 (l.set (Nat.cast (R := Int) i).toNat (DV.agg [DV.str x.1, DV.lst 3 (List.map vD x.2) false, DV.lst 3 (List.map vD x.3) false, DV.lst 3 (List.map vD x.4) false])) (Nat.cast (R := Int) (i + 1)) ((j + 1 : Nat) : Int), _, _)) (by refine ⟨?_, ?_, ?_, ?_, ?_, ?_, trivial⟩ <;> (first | exact bx1 | exact bx2 | exact bx3 | exact isC_chD hxo | exact decide_eq_true (by omega))) (by refine ⟨?_, ?_, ?_, le_bool h29, ?_, ?_, trivial⟩ <;> (first | exact le_bool (decide_eq_true (by omega)) | exact bx4 | exact hnb h29 | exact ov_succ (by omega))) ?_
      first | exact hA2 h29 | exact hB2 h29
    · skip
      refine WK.segA ok 1000 0 [(19, RV.d (DV.bool true)), (25, RV.d (DV.agg [DV.str x.1, DV.lst 3 (List.map vD x.2) false, DV.lst 3 (List.map vD x.3) false, DV.lst 3 (List.map vD x.4) false])), (28, RV.d (DV.bool (nilB x))), (21, RV.d (DV.int Go.IntKind.i64 (Nat.cast (R := Int) (j + 1)))), (35, RV.d (DV.int Go.IntKind.i64 (Nat.cast (R := Int) (i + 1)))), (29, RV.d (DV.bool false))] [] [0, 1, 5, 6] [decide (0 ≤ (Nat.cast (R := Int) j) ∧ (Nat.cast (R := Int) j) < (Nat.cast (R := Int) l.length)), decide ((Nat.cast (R := Int) j).toNat < l.length), Nat.ble 4 (l.getD (Nat.cast (R := Int) j).toNat DV.nilp).cells.length, isC (DV.agg [DV.str x.1, DV.lst 3 (List.map vD x.2) false, DV.lst 3 (List.map vD x.3) false, DV.lst 3 (List.map vD x.4) false])] [(RV.d (DV.bool (decide ((Nat.cast (R := Int) j) < (Nat.cast (R := Int) l.length)))), RV.d (DV.bool true)), (RV.d (DV.agg (List.take 4 (List.drop 0 (l.getD (Nat.cast (R := Int) j).toNat DV.nilp).cells))), RV.d (DV.agg [DV.str x.1, DV.lst 3 (List.map vD x.2) false, DV.lst 3 (List.map vD x.3) false, DV.lst 3 (List.map vD x.4) false])), (RV.d (DV.bool (nilB { t := x.1, k := List.map toVal (List.map vD x.k), o := List.map toVal (List.map vD x.o), n := List.map toVal (List.map vD x.n) })), RV.d (DV.bool (nilB x))), (RV.d (DV.bool !nilB x), RV.d (DV.bool false)), (RV.d (DV.int Go.IntKind.i64 (Go.IntKind.i64.wrap ((Nat.cast (R := Int) j) + 1))), RV.d (DV.int Go.IntKind.i64 (Nat.cast (R := Int) (j + 1))))] rfl (by kernel_rfl : runSegA (cfB ts5b) 1000 0 _ _ _ _ (de1 l (i : Int) (j : Int)) = some (stackAt deC 0, de1 l (Nat.cast (R := Int) i) ((j + 1 : Nat) : Int), _, _)) (by refine ⟨?_, ?_, ?_, ?_, trivial⟩ <;> (first | exact bx1 | exact bx2 | exact bx3 | exact isC_chD hxo | exact decide_eq_true (by omega))) (by refine ⟨?_, ?_, ?_, le_bool h29, ?_, trivial⟩ <;> (first | exact le_bool (decide_eq_true (by omega)) | exact bx4 | exact hnb h29 | exact ov_succ (by omega))) ?_
      first | exact hA2 h29 | exact hB2 h29
  · have e : j = n := by omega
    subst e
    have e1 : L.take j = L := List.take_of_length_le (by omega)
    have e2 : L.drop j = [] := List.drop_eq_nil_of_le (by omega)
    rw [e1, e2, List.append_nil] at hll ⊢
    rw [e1] at hG hi
    obtain ⟨l, hl⟩ : ∃ l, (live L ++ G).map chD = l := ⟨_, rfl⟩
    have hclr : clr l i j = (live L).map chD ++ List.replicate (j - (live L).length) zD := by
      unfold clr
      rw [hi, ← hl, List.map_append, List.take_left' (by rw [List.length_map]; exact hi)]
      rw [List.drop_eq_nil_of_le (by simp only [List.length_append, List.length_map]; omega), List.append_nil]
    have hcl : (clr l i j).length = j := by rw [hclr]; simp only [List.length_append, List.length_map, List.length_replicate]; omega
    rw [hl] at hll ⊢
    rw [← hclr, hi]
    have hf : decide ((Nat.cast (R := Int) j) < ((l.length : Nat) : Int)) = false := decide_eq_false (by omega)
    have hrun : runEnd (cfB ts5b) false (Try.f72.results.toList) 1000 0 [(19, .d (.bool false))] (stackAt deC 0) (de1 l (i : Int) (j : Int)) = some (.sub 0 4 0 i, [.arr chT 4 (clr l i l.length)], [decide ((0 : Int) ≤ (i : Int) ∧ (i : Int) ≤ ((l.length : Nat) : Int)), decide (i + (l.length - i) ≤ l.length), decide ((0 : Int) ≤ (i : Int) ∧ (i : Int) ≤ (((clr l i l.length).length : Nat) : Int))], [(.d (.bool (decide ((Nat.cast (R := Int) j) < ((l.length : Nat) : Int)))), .d (.bool false))]) := by kernel_rfl
    refine WK.fin ok 1000 0 _ _ _ rfl hrun ⟨decide_eq_true (by omega), decide_eq_true (by omega), decide_eq_true (by rw [hll, hcl]; omega), trivial⟩ ⟨le_bool hf, trivial⟩ ⟨rfl, by rw [hll]; rfl⟩
set_option maxHeartbeats 2000000 in
theorem del_c (L : List Chg) (hok : okL L) : C Try.prog 72 [.own 0 4, delv] (arC (L.map chD)) (fun r o => r = .own 1 4 ∧ o = [.gone, .arr chT 4 ((live L).map chD)]) := by
  have ok := cfB_ok ts5b_ok
  obtain ⟨n, hn⟩ : ∃ n, L.length = n := ⟨_, rfl⟩
  have hn6 : n ≤ 65536 := by have := hok.1; omega
  have h1 := all_isC hok.2
  have h2 : decide ((L.map chD).length ≤ 65536) = true := decide_eq_true (by rw [List.length_map]; omega)
  cases hf : L.findIdx? nilB with
  | none =>
    have hlive : live L = L := live_nil (fun x hx => by rw [List.findIdx?_eq_none_iff] at hf; simpa using hf x hx)
    have hi : idxC L = -1 := by unfold idxC; rw [hf]
    have key := C.own1 (P := Try.prog) (f := 72) (args := [.own 0 4, delv]) (ty := chT) (sz := 4) (els := L.map chD) (els1 := L.map chD) (v0 := .own 0 4) ?_ (L.map chD).length (Nat.le_refl _) (.inr ⟨rfl, rfl⟩)
    · rw [hlive]; rw [List.take_length] at key; exact key
    refine C_of_run (fn := Try.f72) (body := deC) false (by kernel_rfl) (by kernel_rfl) (by kernel_rfl) ?_
    have hi2 : idxC ((L.map chD).map toChg) = -1 := by rw [unL_map]; exact hi
    obtain ⟨l, hl⟩ : ∃ l, L.map chD = l := ⟨_, rfl⟩
    show WK Try.prog 1 _ (ini 42 [.own 0 4, delv] [.arr chT 4 (L.map chD)]).den _
    rw [hl] at h1 h2 hi2 ⊢
    have hrun : runEnd (cfB ts5b) false (Try.f72.results.toList) 1000 0 [(12, .d (.bool true))] [.code deC] (ini 42 [.own 0 4, delv] [.arr chT 4 l]) = some (.own 0 4, [.arr chT 4 l], [true, true, l.all isC, decide (l.length ≤ 65536)], [(.d (.bool (idxC (l.map toChg) == -1)), .d (.bool true))]) := by kernel_rfl
    exact WK.fin ok 1000 0 _ _ _ rfl hrun ⟨rfl, rfl, h1, h2, trivial⟩ ⟨le_bool (by rw [hi2]; rfl), trivial⟩ ⟨rfl, rfl⟩
  | some i =>
    rw [List.findIdx?_eq_some_iff_getElem] at hf
    obtain ⟨hil, hb, hpre⟩ := hf
    have hi : idxC L = i := by
      unfold idxC
      rw [(List.findIdx?_eq_some_iff_getElem).2 ⟨hil, hb, hpre⟩]
    have hi2 : idxC ((L.map chD).map toChg) = i := by rw [unL_map]; exact hi
    have lv : live (L.take (i + 1)) = L.take i := by
      have tx : L.take (i + 1) = L.take i ++ [L[i]] := by rw [List.take_add_one, List.getElem?_eq_getElem hil]; rfl
      rw [tx, live_snoc, if_pos hb, List.append_nil]
      refine live_nil fun x hx => ?_
      obtain ⟨j, hj⟩ := List.getElem?_of_mem hx
      rw [List.getElem?_take] at hj
      split at hj
      · rename_i hji
        rw [List.getElem?_eq_getElem (by omega)] at hj
        injection hj with hj
        have := hpre j hji
        rw [← hj]; simpa using this
      · cases hj
    have li : (L.take i).length = i := by rw [List.length_take]; omega
    have hkl : (live L).length ≤ L.length := List.length_filter_le _ _
    have key := C.own1 (P := Try.prog) (f := 72) (args := [.own 0 4, delv]) (ty := chT) (sz := 4) (els := (live L).map chD ++ List.replicate (n - (live L).length) zD) (els1 := L.map chD) (v0 := .sub 0 4 0 (live L).length) ?_ (live L).length (by simp) (.inl rfl)
    · rw [List.take_left' (by rw [List.length_map])] at key; exact key
    refine C_of_run (fn := Try.f72) (body := deC) false (by kernel_rfl) (by kernel_rfl) (by kernel_rfl) ?_
    have hl0 := de_loop L hok n hn (i + 1) [L[i]] (by omega) (by rw [lv, li]; rfl)
    rw [lv, li] at hl0
    have e0 : L.take i ++ ([L[i]] ++ L.drop (i + 1)) = L := by
      have tx : L.take (i + 1) = L.take i ++ [L[i]] := by rw [List.take_add_one, List.getElem?_eq_getElem hil]; rfl
      rw [← List.append_assoc, ← tx, List.take_append_drop]
    rw [e0] at hl0
    obtain ⟨l, hl⟩ : ∃ l, L.map chD = l := ⟨_, rfl⟩
    obtain ⟨k, hk⟩ : ∃ k, (live L).length = k := ⟨_, rfl⟩
    obtain ⟨T, hT⟩ : ∃ T, (live L).map chD ++ List.replicate (n - (live L).length) zD = T := ⟨_, rfl⟩
    show WK Try.prog 1 _ (ini 42 [.own 0 4, delv] [.arr chT 4 (L.map chD)]).den _
    rw [hl] at h1 h2 hi2
    rw [hl, hT, hk] at hl0
    rw [hl, hT, hk]
    refine WK.segA ok 1000 0 [(12, RV.d (DV.bool false)), (5, RV.d (DV.int Go.IntKind.i64 (Nat.cast (R := Int) i))), (15, RV.d (DV.int Go.IntKind.i64 (Nat.cast (R := Int) (i + 1))))] [] [0, 1, 5, 6] [true, true, l.all isC, decide (l.length ≤ 65536)] [(RV.d (DV.int Go.IntKind.i64 (idxC (List.map toChg l))), RV.d (DV.int Go.IntKind.i64 (Nat.cast (R := Int) i))), (RV.d (DV.bool false), RV.d (DV.bool false)), (RV.d (DV.int Go.IntKind.i64 (Go.IntKind.i64.wrap ((Nat.cast (R := Int) i) + 1))), RV.d (DV.int Go.IntKind.i64 (Nat.cast (R := Int) (i + 1))))] rfl (by kernel_rfl : runSegA (cfB ts5b) 1000 0 _ _ _ _ (ini 42 [.own 0 4, delv] [.arr chT 4 l]) = some (stackAt deC 0, de1 l (i : Int) ((i + 1 : Nat) : Int), _, _)) (by refine ⟨?_, ?_, ?_, ?_, trivial⟩ <;> (first | rfl | exact h1 | exact h2)) (by refine ⟨?_, ?_, ?_, trivial⟩ <;> (first | exact le_bool rfl | exact .of_eq (by rw [hi2]) | exact ov_succ (by omega))) ?_
    exact hl0
/-- the entry: what is none is taken out -/
def delE : Ent := fun a o => match a, o with
  | [.own 0 4, .clo (.func f) [] []], [.arr T 4 els] => some (.own 1 4, [.gone, .arr T 4 ((live (els.map toChg)).map chD)], [Nat.beq T chT, Nat.beq f 73, els.all isC, decide (els.length ≤ 65536)])
  | _, _ => none
theorem del_ent : EntOk Try.prog 72 delE := by
  intro a o r o' c hg hc
  unfold delE at hg
  split at hg
  · rename_i f T els
    simp only [Option.some.injEq, Prod.mk.injEq] at hg
    obtain ⟨rfl, rfl, rfl⟩ := hg
    have hT := nbE (hc (Nat.beq T chT) (by simp))
    have hF := nbE (hc (Nat.beq f 73) (by simp))
    have h1 := hc (els.all isC) (by simp)
    have h6 := of_decide_eq_true (hc (decide (els.length ≤ 65536)) (by simp))
    subst hT hF
    obtain ⟨L, rfl, hLok⟩ := els_of h1 h6
    rw [unL_map]
    exact del_c L hLok
  · cases hg
end Go.Proofs.Ytljfolepmkcjlaa
