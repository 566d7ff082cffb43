/-
  Texts that the claim leans on, one behind the other, part 8.
-/
import Derived.Test.YtljfolepmkcjlaaXk7

/-
  The end of the symmetric merge, run.
-/
namespace Go.Proofs.Ytljfolepmkcjlaa
open Go.RowKit Plain Am IntWalk
set_option maxRecDepth 100000
set_option linter.unusedVariables false
set_option linter.unusedSimpArgs false

set_option maxHeartbeats 4000000 in
/-- behind the search: the parts are exchanged, and each half is merged -/
theorem sy_end {N : Nat} (hent : EntsOk Try.prog (ts3 N)) (l L1 L2 L3 : List DV) (a i j m e h b n p : Nat)
    (ai : a ≤ i) (im : i ≤ m) (me : m ≤ e) (eb : e ≤ b) (ih : i ≤ h) (he : h ≤ e) (ah : a < h) (hb : h < b) (hn : i + e = n) (hn2 : h + m = n) (hij : j ≤ i) (hbl : b ≤ l.length) (hll : l.length ≤ 65536)
    (k0 : l.all isC = true) (k1 : L1.all isC = true) (k2 : L2.all isC = true) (n1 : L1.length = l.length) (n2 : L2.length = l.length)
    (hR : rotL l i m e = L1) (hF : symL L1 a i h = L2) (hS : symL L2 h e b = L3) (R0 : i = m ∨ m = e → l = L1) (F0 : a = i ∨ i = h → L1 = L2) (S0 : h = e ∨ e = b → L2 = L3)
    (s1 : srtP L1 a i = true) (s2 : srtP L1 i h = true) (s3 : srtP L2 h e = true) (s4 : srtP L2 e b = true) (hN1 : h < N + a) (hN2 : b < N + h) :
    WK Try.prog 1 (stackAt syC 4) (sy3 l (a : Int) (m : Int) (b : Int) (h : Int) (n : Int) (i : Int) (j : Int) (p : Int)).den (EndsY L3) := by
  have ok := cfB_ok hent
  by_cases hy1 : m = e
  · have e1 := R0 (.inr hy1)
    subst e1
    have e2 := F0 (.inr (by omega))
    subst e2
    by_cases hx2 : i = m
    · have e3 := S0 (.inl (by omega))
      subst e3
      exact WK.fin ok 1000 0 [(151, RV.d (DV.bool false)), (177, RV.d (DV.int Go.IntKind.i64 (Nat.cast (R := Int) e))), (180, RV.d (DV.bool false)), (181, RV.d (DV.bool false)), (185, RV.d (DV.bool false)), (194, RV.d (DV.bool true)), (195, RV.d (DV.bool true)), (198, RV.d (DV.bool false)), (199, RV.d (DV.bool false)), (208, RV.d (DV.bool false)), (209, RV.d (DV.bool false)), (213, RV.d (DV.bool false))] [] [(RV.d (DV.bool (decide ((Nat.cast (R := Int) i) < (Nat.cast (R := Int) j)))), RV.d (DV.bool false)), (RV.d (DV.int Go.IntKind.i64 (Go.IntKind.i64.wrap ((Nat.cast (R := Int) n) - (Nat.cast (R := Int) i)))), RV.d (DV.int Go.IntKind.i64 (Nat.cast (R := Int) e))), (RV.d (DV.bool (decide ((Nat.cast (R := Int) i) < (Nat.cast (R := Int) m)))), RV.d (DV.bool false)), (RV.d (DV.bool false), RV.d (DV.bool false)), (RV.d (DV.bool false), RV.d (DV.bool false)), (RV.d (DV.bool (decide ((Nat.cast (R := Int) a) < (Nat.cast (R := Int) i)))), RV.d (DV.bool true)), (RV.d (DV.bool true), RV.d (DV.bool true)), (RV.d (DV.bool (decide ((Nat.cast (R := Int) i) < (Nat.cast (R := Int) h)))), RV.d (DV.bool false)), (RV.d (DV.bool false), RV.d (DV.bool false)), (RV.d (DV.bool (decide ((Nat.cast (R := Int) h) < (Nat.cast (R := Int) e)))), RV.d (DV.bool false)), (RV.d (DV.bool false), RV.d (DV.bool false)), (RV.d (DV.bool false), RV.d (DV.bool false))] rfl (by kernel_rfl : runEnd (cfB (ts3 N)) false _ 1000 0 _ _ (sy3 l (a : Int) (m : Int) (b : Int) (h : Int) (n : Int) (i : Int) (j : Int) (p : Int)) = some (RV.tup [], [PObj.arr 46 4 l], _, _)) trivial (by refine ⟨?_, ?_, ?_, ?_, ?_, ?_, ?_, ?_, ?_, ?_, ?_, ?_, trivial⟩ <;> (first | exact le_bool rfl | exact le_bool (decide_eq_true (by omega)) | exact le_bool (decide_eq_false (by omega)) | exact ov_sub (by omega) (by omega))) ⟨rfl, by first | rfl | (simp only [Int.toNat_natCast, hR, hF, hS]; rfl)⟩
    · by_cases hy2 : e = b
      · have e3 := S0 (.inr hy2)
        subst e3
        exact WK.fin ok 1000 0 [(151, RV.d (DV.bool false)), (177, RV.d (DV.int Go.IntKind.i64 (Nat.cast (R := Int) e))), (180, RV.d (DV.bool true)), (181, RV.d (DV.bool true)), (184, RV.d (DV.bool false)), (185, RV.d (DV.bool false)), (194, RV.d (DV.bool true)), (195, RV.d (DV.bool true)), (198, RV.d (DV.bool false)), (199, RV.d (DV.bool false)), (208, RV.d (DV.bool true)), (209, RV.d (DV.bool true)), (212, RV.d (DV.bool false)), (213, RV.d (DV.bool false))] [] [(RV.d (DV.bool (decide ((Nat.cast (R := Int) i) < (Nat.cast (R := Int) j)))), RV.d (DV.bool false)), (RV.d (DV.int Go.IntKind.i64 (Go.IntKind.i64.wrap ((Nat.cast (R := Int) n) - (Nat.cast (R := Int) i)))), RV.d (DV.int Go.IntKind.i64 (Nat.cast (R := Int) e))), (RV.d (DV.bool (decide ((Nat.cast (R := Int) i) < (Nat.cast (R := Int) m)))), RV.d (DV.bool true)), (RV.d (DV.bool true), RV.d (DV.bool true)), (RV.d (DV.bool (decide ((Nat.cast (R := Int) m) < (Nat.cast (R := Int) e)))), RV.d (DV.bool false)), (RV.d (DV.bool false), RV.d (DV.bool false)), (RV.d (DV.bool (decide ((Nat.cast (R := Int) a) < (Nat.cast (R := Int) i)))), RV.d (DV.bool true)), (RV.d (DV.bool true), RV.d (DV.bool true)), (RV.d (DV.bool (decide ((Nat.cast (R := Int) i) < (Nat.cast (R := Int) h)))), RV.d (DV.bool false)), (RV.d (DV.bool false), RV.d (DV.bool false)), (RV.d (DV.bool (decide ((Nat.cast (R := Int) h) < (Nat.cast (R := Int) e)))), RV.d (DV.bool true)), (RV.d (DV.bool true), RV.d (DV.bool true)), (RV.d (DV.bool (decide ((Nat.cast (R := Int) e) < (Nat.cast (R := Int) b)))), RV.d (DV.bool false)), (RV.d (DV.bool false), RV.d (DV.bool false))] rfl (by kernel_rfl : runEnd (cfB (ts3 N)) false _ 1000 0 _ _ (sy3 l (a : Int) (m : Int) (b : Int) (h : Int) (n : Int) (i : Int) (j : Int) (p : Int)) = some (RV.tup [], [PObj.arr 46 4 l], _, _)) trivial (by refine ⟨?_, ?_, ?_, ?_, ?_, ?_, ?_, ?_, ?_, ?_, ?_, ?_, ?_, ?_, trivial⟩ <;> (first | exact le_bool rfl | exact le_bool (decide_eq_true (by omega)) | exact le_bool (decide_eq_false (by omega)) | exact ov_sub (by omega) (by omega))) ⟨rfl, by first | rfl | (simp only [Int.toNat_natCast, hR, hF, hS]; rfl)⟩
      · skip
        exact WK.fin ok 1000 0 [(151, RV.d (DV.bool false)), (177, RV.d (DV.int Go.IntKind.i64 (Nat.cast (R := Int) e))), (180, RV.d (DV.bool true)), (181, RV.d (DV.bool true)), (184, RV.d (DV.bool false)), (185, RV.d (DV.bool false)), (194, RV.d (DV.bool true)), (195, RV.d (DV.bool true)), (198, RV.d (DV.bool false)), (199, RV.d (DV.bool false)), (208, RV.d (DV.bool true)), (209, RV.d (DV.bool true)), (212, RV.d (DV.bool true)), (213, RV.d (DV.bool true))] [true, true, l.all isC, true, decide ((Nat.cast (R := Int) h) < (Nat.cast (R := Int) e)), decide ((Nat.cast (R := Int) e) < (Nat.cast (R := Int) b)), decide ((Nat.cast (R := Int) b) ≤ (Nat.cast (R := Int) l.length)), decide (l.length ≤ 65536), srtP l (Nat.cast (R := Int) h).toNat (Nat.cast (R := Int) e).toNat, srtP l (Nat.cast (R := Int) e).toNat (Nat.cast (R := Int) b).toNat, decide ((Nat.cast (R := Int) b) - (Nat.cast (R := Int) h) < (Nat.cast (R := Int) N))] [(RV.d (DV.bool (decide ((Nat.cast (R := Int) i) < (Nat.cast (R := Int) j)))), RV.d (DV.bool false)), (RV.d (DV.int Go.IntKind.i64 (Go.IntKind.i64.wrap ((Nat.cast (R := Int) n) - (Nat.cast (R := Int) i)))), RV.d (DV.int Go.IntKind.i64 (Nat.cast (R := Int) e))), (RV.d (DV.bool (decide ((Nat.cast (R := Int) i) < (Nat.cast (R := Int) m)))), RV.d (DV.bool true)), (RV.d (DV.bool true), RV.d (DV.bool true)), (RV.d (DV.bool (decide ((Nat.cast (R := Int) m) < (Nat.cast (R := Int) e)))), RV.d (DV.bool false)), (RV.d (DV.bool false), RV.d (DV.bool false)), (RV.d (DV.bool (decide ((Nat.cast (R := Int) a) < (Nat.cast (R := Int) i)))), RV.d (DV.bool true)), (RV.d (DV.bool true), RV.d (DV.bool true)), (RV.d (DV.bool (decide ((Nat.cast (R := Int) i) < (Nat.cast (R := Int) h)))), RV.d (DV.bool false)), (RV.d (DV.bool false), RV.d (DV.bool false)), (RV.d (DV.bool (decide ((Nat.cast (R := Int) h) < (Nat.cast (R := Int) e)))), RV.d (DV.bool true)), (RV.d (DV.bool true), RV.d (DV.bool true)), (RV.d (DV.bool (decide ((Nat.cast (R := Int) e) < (Nat.cast (R := Int) b)))), RV.d (DV.bool true)), (RV.d (DV.bool true), RV.d (DV.bool true))] rfl (by kernel_rfl : runEnd (cfB (ts3 N)) false _ 1000 0 _ _ (sy3 l (a : Int) (m : Int) (b : Int) (h : Int) (n : Int) (i : Int) (j : Int) (p : Int)) = some (RV.tup [], [PObj.arr 46 4 (symL l (Nat.cast (R := Int) h).toNat (Nat.cast (R := Int) e).toNat (Nat.cast (R := Int) b).toNat)], _, _)) (by refine ⟨?_, ?_, ?_, ?_, ?_, ?_, ?_, ?_, ?_, ?_, ?_, trivial⟩ <;> (first | rfl | assumption | exact decide_eq_true (by omega) | (simp only [Int.toNat_natCast, hR, hF]; first | assumption | exact decide_eq_true (by omega)))) (by refine ⟨?_, ?_, ?_, ?_, ?_, ?_, ?_, ?_, ?_, ?_, ?_, ?_, ?_, ?_, trivial⟩ <;> (first | exact le_bool rfl | exact le_bool (decide_eq_true (by omega)) | exact le_bool (decide_eq_false (by omega)) | exact ov_sub (by omega) (by omega))) ⟨rfl, by first | rfl | (simp only [Int.toNat_natCast, hR, hF, hS]; rfl)⟩
  · by_cases hx2 : i = m
    · have e1 := R0 (.inl hx2)
      subst e1
      by_cases hx1 : a = i
      · have e2 := F0 (.inl hx1)
        subst e2
        have e3 := S0 (.inl (by omega))
        subst e3
        exact WK.fin ok 1000 0 [(151, RV.d (DV.bool false)), (177, RV.d (DV.int Go.IntKind.i64 (Nat.cast (R := Int) e))), (180, RV.d (DV.bool false)), (181, RV.d (DV.bool false)), (185, RV.d (DV.bool false)), (194, RV.d (DV.bool false)), (195, RV.d (DV.bool false)), (199, RV.d (DV.bool false)), (208, RV.d (DV.bool false)), (209, RV.d (DV.bool false)), (213, RV.d (DV.bool false))] [] [(RV.d (DV.bool (decide ((Nat.cast (R := Int) i) < (Nat.cast (R := Int) j)))), RV.d (DV.bool false)), (RV.d (DV.int Go.IntKind.i64 (Go.IntKind.i64.wrap ((Nat.cast (R := Int) n) - (Nat.cast (R := Int) i)))), RV.d (DV.int Go.IntKind.i64 (Nat.cast (R := Int) e))), (RV.d (DV.bool (decide ((Nat.cast (R := Int) i) < (Nat.cast (R := Int) m)))), RV.d (DV.bool false)), (RV.d (DV.bool false), RV.d (DV.bool false)), (RV.d (DV.bool false), RV.d (DV.bool false)), (RV.d (DV.bool (decide ((Nat.cast (R := Int) a) < (Nat.cast (R := Int) i)))), RV.d (DV.bool false)), (RV.d (DV.bool false), RV.d (DV.bool false)), (RV.d (DV.bool false), RV.d (DV.bool false)), (RV.d (DV.bool (decide ((Nat.cast (R := Int) h) < (Nat.cast (R := Int) e)))), RV.d (DV.bool false)), (RV.d (DV.bool false), RV.d (DV.bool false)), (RV.d (DV.bool false), RV.d (DV.bool false))] rfl (by kernel_rfl : runEnd (cfB (ts3 N)) false _ 1000 0 _ _ (sy3 l (a : Int) (m : Int) (b : Int) (h : Int) (n : Int) (i : Int) (j : Int) (p : Int)) = some (RV.tup [], [PObj.arr 46 4 l], _, _)) trivial (by refine ⟨?_, ?_, ?_, ?_, ?_, ?_, ?_, ?_, ?_, ?_, ?_, trivial⟩ <;> (first | exact le_bool rfl | exact le_bool (decide_eq_true (by omega)) | exact le_bool (decide_eq_false (by omega)) | exact ov_sub (by omega) (by omega))) ⟨rfl, by first | rfl | (simp only [Int.toNat_natCast, hR, hF, hS]; rfl)⟩
      · have e3 := S0 (.inl (by omega))
        subst e3
        exact WK.fin ok 1000 0 [(151, RV.d (DV.bool false)), (177, RV.d (DV.int Go.IntKind.i64 (Nat.cast (R := Int) e))), (180, RV.d (DV.bool false)), (181, RV.d (DV.bool false)), (185, RV.d (DV.bool false)), (194, RV.d (DV.bool true)), (195, RV.d (DV.bool true)), (198, RV.d (DV.bool true)), (199, RV.d (DV.bool true)), (208, RV.d (DV.bool false)), (209, RV.d (DV.bool false)), (213, RV.d (DV.bool false))] [true, true, l.all isC, true, decide ((Nat.cast (R := Int) a) < (Nat.cast (R := Int) i)), decide ((Nat.cast (R := Int) i) < (Nat.cast (R := Int) h)), decide ((Nat.cast (R := Int) h) ≤ (Nat.cast (R := Int) l.length)), decide (l.length ≤ 65536), srtP l (Nat.cast (R := Int) a).toNat (Nat.cast (R := Int) i).toNat, srtP l (Nat.cast (R := Int) i).toNat (Nat.cast (R := Int) h).toNat, decide ((Nat.cast (R := Int) h) - (Nat.cast (R := Int) a) < (Nat.cast (R := Int) N))] [(RV.d (DV.bool (decide ((Nat.cast (R := Int) i) < (Nat.cast (R := Int) j)))), RV.d (DV.bool false)), (RV.d (DV.int Go.IntKind.i64 (Go.IntKind.i64.wrap ((Nat.cast (R := Int) n) - (Nat.cast (R := Int) i)))), RV.d (DV.int Go.IntKind.i64 (Nat.cast (R := Int) e))), (RV.d (DV.bool (decide ((Nat.cast (R := Int) i) < (Nat.cast (R := Int) m)))), RV.d (DV.bool false)), (RV.d (DV.bool false), RV.d (DV.bool false)), (RV.d (DV.bool false), RV.d (DV.bool false)), (RV.d (DV.bool (decide ((Nat.cast (R := Int) a) < (Nat.cast (R := Int) i)))), RV.d (DV.bool true)), (RV.d (DV.bool true), RV.d (DV.bool true)), (RV.d (DV.bool (decide ((Nat.cast (R := Int) i) < (Nat.cast (R := Int) h)))), RV.d (DV.bool true)), (RV.d (DV.bool true), RV.d (DV.bool true)), (RV.d (DV.bool (decide ((Nat.cast (R := Int) h) < (Nat.cast (R := Int) e)))), RV.d (DV.bool false)), (RV.d (DV.bool false), RV.d (DV.bool false)), (RV.d (DV.bool false), RV.d (DV.bool false))] rfl (by kernel_rfl : runEnd (cfB (ts3 N)) false _ 1000 0 _ _ (sy3 l (a : Int) (m : Int) (b : Int) (h : Int) (n : Int) (i : Int) (j : Int) (p : Int)) = some (RV.tup [], [PObj.arr 46 4 (symL l (Nat.cast (R := Int) a).toNat (Nat.cast (R := Int) i).toNat (Nat.cast (R := Int) h).toNat)], _, _)) (by refine ⟨?_, ?_, ?_, ?_, ?_, ?_, ?_, ?_, ?_, ?_, ?_, trivial⟩ <;> (first | rfl | assumption | exact decide_eq_true (by omega) | (simp only [Int.toNat_natCast, hR, hF]; first | assumption | exact decide_eq_true (by omega)))) (by refine ⟨?_, ?_, ?_, ?_, ?_, ?_, ?_, ?_, ?_, ?_, ?_, ?_, trivial⟩ <;> (first | exact le_bool rfl | exact le_bool (decide_eq_true (by omega)) | exact le_bool (decide_eq_false (by omega)) | exact ov_sub (by omega) (by omega))) ⟨rfl, by first | rfl | (simp only [Int.toNat_natCast, hR, hF, hS]; rfl)⟩
    · by_cases hx1 : a = i
      · have e2 := F0 (.inl hx1)
        subst e2
        by_cases hy2 : e = b
        · have e3 := S0 (.inr hy2)
          subst e3
          exact WK.fin ok 1000 0 [(151, RV.d (DV.bool false)), (177, RV.d (DV.int Go.IntKind.i64 (Nat.cast (R := Int) e))), (180, RV.d (DV.bool true)), (181, RV.d (DV.bool true)), (184, RV.d (DV.bool true)), (185, RV.d (DV.bool true)), (194, RV.d (DV.bool false)), (195, RV.d (DV.bool false)), (199, RV.d (DV.bool false)), (208, RV.d (DV.bool true)), (209, RV.d (DV.bool true)), (212, RV.d (DV.bool false)), (213, RV.d (DV.bool false))] [true, true, l.all isC, true, decide ((Nat.cast (R := Int) i) < (Nat.cast (R := Int) m)), decide ((Nat.cast (R := Int) m) < (Nat.cast (R := Int) e)), decide ((Nat.cast (R := Int) e) ≤ (Nat.cast (R := Int) l.length)), decide (l.length ≤ 65536)] [(RV.d (DV.bool (decide ((Nat.cast (R := Int) i) < (Nat.cast (R := Int) j)))), RV.d (DV.bool false)), (RV.d (DV.int Go.IntKind.i64 (Go.IntKind.i64.wrap ((Nat.cast (R := Int) n) - (Nat.cast (R := Int) i)))), RV.d (DV.int Go.IntKind.i64 (Nat.cast (R := Int) e))), (RV.d (DV.bool (decide ((Nat.cast (R := Int) i) < (Nat.cast (R := Int) m)))), RV.d (DV.bool true)), (RV.d (DV.bool true), RV.d (DV.bool true)), (RV.d (DV.bool (decide ((Nat.cast (R := Int) m) < (Nat.cast (R := Int) e)))), RV.d (DV.bool true)), (RV.d (DV.bool true), RV.d (DV.bool true)), (RV.d (DV.bool (decide ((Nat.cast (R := Int) a) < (Nat.cast (R := Int) i)))), RV.d (DV.bool false)), (RV.d (DV.bool false), RV.d (DV.bool false)), (RV.d (DV.bool false), RV.d (DV.bool false)), (RV.d (DV.bool (decide ((Nat.cast (R := Int) h) < (Nat.cast (R := Int) e)))), RV.d (DV.bool true)), (RV.d (DV.bool true), RV.d (DV.bool true)), (RV.d (DV.bool (decide ((Nat.cast (R := Int) e) < (Nat.cast (R := Int) b)))), RV.d (DV.bool false)), (RV.d (DV.bool false), RV.d (DV.bool false))] rfl (by kernel_rfl : runEnd (cfB (ts3 N)) false _ 1000 0 _ _ (sy3 l (a : Int) (m : Int) (b : Int) (h : Int) (n : Int) (i : Int) (j : Int) (p : Int)) = some (RV.tup [], [PObj.arr 46 4 (rotL l (Nat.cast (R := Int) i).toNat (Nat.cast (R := Int) m).toNat (Nat.cast (R := Int) e).toNat)], _, _)) (by refine ⟨?_, ?_, ?_, ?_, ?_, ?_, ?_, ?_, trivial⟩ <;> (first | rfl | assumption | exact decide_eq_true (by omega) | (simp only [Int.toNat_natCast, hR, hF]; first | assumption | exact decide_eq_true (by omega)))) (by refine ⟨?_, ?_, ?_, ?_, ?_, ?_, ?_, ?_, ?_, ?_, ?_, ?_, ?_, trivial⟩ <;> (first | exact le_bool rfl | exact le_bool (decide_eq_true (by omega)) | exact le_bool (decide_eq_false (by omega)) | exact ov_sub (by omega) (by omega))) ⟨rfl, by first | rfl | (simp only [Int.toNat_natCast, hR, hF, hS]; rfl)⟩
        · skip
          exact WK.fin ok 1000 0 [(151, RV.d (DV.bool false)), (177, RV.d (DV.int Go.IntKind.i64 (Nat.cast (R := Int) e))), (180, RV.d (DV.bool true)), (181, RV.d (DV.bool true)), (184, RV.d (DV.bool true)), (185, RV.d (DV.bool true)), (194, RV.d (DV.bool false)), (195, RV.d (DV.bool false)), (199, RV.d (DV.bool false)), (208, RV.d (DV.bool true)), (209, RV.d (DV.bool true)), (212, RV.d (DV.bool true)), (213, RV.d (DV.bool true))] [true, true, l.all isC, true, decide ((Nat.cast (R := Int) i) < (Nat.cast (R := Int) m)), decide ((Nat.cast (R := Int) m) < (Nat.cast (R := Int) e)), decide ((Nat.cast (R := Int) e) ≤ (Nat.cast (R := Int) l.length)), decide (l.length ≤ 65536), true, true, (rotL l (Nat.cast (R := Int) i).toNat (Nat.cast (R := Int) m).toNat (Nat.cast (R := Int) e).toNat).all isC, true, decide ((Nat.cast (R := Int) h) < (Nat.cast (R := Int) e)), decide ((Nat.cast (R := Int) e) < (Nat.cast (R := Int) b)), decide ((Nat.cast (R := Int) b) ≤ (Nat.cast (R := Int) (rotL l (Nat.cast (R := Int) i).toNat (Nat.cast (R := Int) m).toNat (Nat.cast (R := Int) e).toNat).length)), decide ((rotL l (Nat.cast (R := Int) i).toNat (Nat.cast (R := Int) m).toNat (Nat.cast (R := Int) e).toNat).length ≤ 65536), srtP (rotL l (Nat.cast (R := Int) i).toNat (Nat.cast (R := Int) m).toNat (Nat.cast (R := Int) e).toNat) (Nat.cast (R := Int) h).toNat (Nat.cast (R := Int) e).toNat, srtP (rotL l (Nat.cast (R := Int) i).toNat (Nat.cast (R := Int) m).toNat (Nat.cast (R := Int) e).toNat) (Nat.cast (R := Int) e).toNat (Nat.cast (R := Int) b).toNat, decide ((Nat.cast (R := Int) b) - (Nat.cast (R := Int) h) < (Nat.cast (R := Int) N))] [(RV.d (DV.bool (decide ((Nat.cast (R := Int) i) < (Nat.cast (R := Int) j)))), RV.d (DV.bool false)), (RV.d (DV.int Go.IntKind.i64 (Go.IntKind.i64.wrap ((Nat.cast (R := Int) n) - (Nat.cast (R := Int) i)))), RV.d (DV.int Go.IntKind.i64 (Nat.cast (R := Int) e))), (RV.d (DV.bool (decide ((Nat.cast (R := Int) i) < (Nat.cast (R := Int) m)))), RV.d (DV.bool true)), (RV.d (DV.bool true), RV.d (DV.bool true)), (RV.d (DV.bool (decide ((Nat.cast (R := Int) m) < (Nat.cast (R := Int) e)))), RV.d (DV.bool true)), (RV.d (DV.bool true), RV.d (DV.bool true)), (RV.d (DV.bool (decide ((Nat.cast (R := Int) a) < (Nat.cast (R := Int) i)))), RV.d (DV.bool false)), (RV.d (DV.bool false), RV.d (DV.bool false)), (RV.d (DV.bool false), RV.d (DV.bool false)), (RV.d (DV.bool (decide ((Nat.cast (R := Int) h) < (Nat.cast (R := Int) e)))), RV.d (DV.bool true)), (RV.d (DV.bool true), RV.d (DV.bool true)), (RV.d (DV.bool (decide ((Nat.cast (R := Int) e) < (Nat.cast (R := Int) b)))), RV.d (DV.bool true)), (RV.d (DV.bool true), RV.d (DV.bool true))] rfl (by kernel_rfl : runEnd (cfB (ts3 N)) false _ 1000 0 _ _ (sy3 l (a : Int) (m : Int) (b : Int) (h : Int) (n : Int) (i : Int) (j : Int) (p : Int)) = some (RV.tup [], [PObj.arr 46 4 (symL (rotL l (Nat.cast (R := Int) i).toNat (Nat.cast (R := Int) m).toNat (Nat.cast (R := Int) e).toNat) (Nat.cast (R := Int) h).toNat (Nat.cast (R := Int) e).toNat (Nat.cast (R := Int) b).toNat)], _, _)) (by refine ⟨?_, ?_, ?_, ?_, ?_, ?_, ?_, ?_, ?_, ?_, ?_, ?_, ?_, ?_, ?_, ?_, ?_, ?_, ?_, trivial⟩ <;> (first | rfl | assumption | exact decide_eq_true (by omega) | (simp only [Int.toNat_natCast, hR, hF]; first | assumption | exact decide_eq_true (by omega)))) (by refine ⟨?_, ?_, ?_, ?_, ?_, ?_, ?_, ?_, ?_, ?_, ?_, ?_, ?_, trivial⟩ <;> (first | exact le_bool rfl | exact le_bool (decide_eq_true (by omega)) | exact le_bool (decide_eq_false (by omega)) | exact ov_sub (by omega) (by omega))) ⟨rfl, by first | rfl | (simp only [Int.toNat_natCast, hR, hF, hS]; rfl)⟩
      · by_cases hy2 : e = b
        · have e3 := S0 (.inr hy2)
          subst e3
          exact WK.fin ok 1000 0 [(151, RV.d (DV.bool false)), (177, RV.d (DV.int Go.IntKind.i64 (Nat.cast (R := Int) e))), (180, RV.d (DV.bool true)), (181, RV.d (DV.bool true)), (184, RV.d (DV.bool true)), (185, RV.d (DV.bool true)), (194, RV.d (DV.bool true)), (195, RV.d (DV.bool true)), (198, RV.d (DV.bool true)), (199, RV.d (DV.bool true)), (208, RV.d (DV.bool true)), (209, RV.d (DV.bool true)), (212, RV.d (DV.bool false)), (213, RV.d (DV.bool false))] [true, true, l.all isC, true, decide ((Nat.cast (R := Int) i) < (Nat.cast (R := Int) m)), decide ((Nat.cast (R := Int) m) < (Nat.cast (R := Int) e)), decide ((Nat.cast (R := Int) e) ≤ (Nat.cast (R := Int) l.length)), decide (l.length ≤ 65536), true, true, (rotL l (Nat.cast (R := Int) i).toNat (Nat.cast (R := Int) m).toNat (Nat.cast (R := Int) e).toNat).all isC, true, decide ((Nat.cast (R := Int) a) < (Nat.cast (R := Int) i)), decide ((Nat.cast (R := Int) i) < (Nat.cast (R := Int) h)), decide ((Nat.cast (R := Int) h) ≤ (Nat.cast (R := Int) (rotL l (Nat.cast (R := Int) i).toNat (Nat.cast (R := Int) m).toNat (Nat.cast (R := Int) e).toNat).length)), decide ((rotL l (Nat.cast (R := Int) i).toNat (Nat.cast (R := Int) m).toNat (Nat.cast (R := Int) e).toNat).length ≤ 65536), srtP (rotL l (Nat.cast (R := Int) i).toNat (Nat.cast (R := Int) m).toNat (Nat.cast (R := Int) e).toNat) (Nat.cast (R := Int) a).toNat (Nat.cast (R := Int) i).toNat, srtP (rotL l (Nat.cast (R := Int) i).toNat (Nat.cast (R := Int) m).toNat (Nat.cast (R := Int) e).toNat) (Nat.cast (R := Int) i).toNat (Nat.cast (R := Int) h).toNat, decide ((Nat.cast (R := Int) h) - (Nat.cast (R := Int) a) < (Nat.cast (R := Int) N))] [(RV.d (DV.bool (decide ((Nat.cast (R := Int) i) < (Nat.cast (R := Int) j)))), RV.d (DV.bool false)), (RV.d (DV.int Go.IntKind.i64 (Go.IntKind.i64.wrap ((Nat.cast (R := Int) n) - (Nat.cast (R := Int) i)))), RV.d (DV.int Go.IntKind.i64 (Nat.cast (R := Int) e))), (RV.d (DV.bool (decide ((Nat.cast (R := Int) i) < (Nat.cast (R := Int) m)))), RV.d (DV.bool true)), (RV.d (DV.bool true), RV.d (DV.bool true)), (RV.d (DV.bool (decide ((Nat.cast (R := Int) m) < (Nat.cast (R := Int) e)))), RV.d (DV.bool true)), (RV.d (DV.bool true), RV.d (DV.bool true)), (RV.d (DV.bool (decide ((Nat.cast (R := Int) a) < (Nat.cast (R := Int) i)))), RV.d (DV.bool true)), (RV.d (DV.bool true), RV.d (DV.bool true)), (RV.d (DV.bool (decide ((Nat.cast (R := Int) i) < (Nat.cast (R := Int) h)))), RV.d (DV.bool true)), (RV.d (DV.bool true), RV.d (DV.bool true)), (RV.d (DV.bool (decide ((Nat.cast (R := Int) h) < (Nat.cast (R := Int) e)))), RV.d (DV.bool true)), (RV.d (DV.bool true), RV.d (DV.bool true)), (RV.d (DV.bool (decide ((Nat.cast (R := Int) e) < (Nat.cast (R := Int) b)))), RV.d (DV.bool false)), (RV.d (DV.bool false), RV.d (DV.bool false))] rfl (by kernel_rfl : runEnd (cfB (ts3 N)) false _ 1000 0 _ _ (sy3 l (a : Int) (m : Int) (b : Int) (h : Int) (n : Int) (i : Int) (j : Int) (p : Int)) = some (RV.tup [], [PObj.arr 46 4 (symL (rotL l (Nat.cast (R := Int) i).toNat (Nat.cast (R := Int) m).toNat (Nat.cast (R := Int) e).toNat) (Nat.cast (R := Int) a).toNat (Nat.cast (R := Int) i).toNat (Nat.cast (R := Int) h).toNat)], _, _)) (by refine ⟨?_, ?_, ?_, ?_, ?_, ?_, ?_, ?_, ?_, ?_, ?_, ?_, ?_, ?_, ?_, ?_, ?_, ?_, ?_, trivial⟩ <;> (first | rfl | assumption | exact decide_eq_true (by omega) | (simp only [Int.toNat_natCast, hR, hF]; first | assumption | exact decide_eq_true (by omega)))) (by refine ⟨?_, ?_, ?_, ?_, ?_, ?_, ?_, ?_, ?_, ?_, ?_, ?_, ?_, ?_, trivial⟩ <;> (first | exact le_bool rfl | exact le_bool (decide_eq_true (by omega)) | exact le_bool (decide_eq_false (by omega)) | exact ov_sub (by omega) (by omega))) ⟨rfl, by first | rfl | (simp only [Int.toNat_natCast, hR, hF, hS]; rfl)⟩
        · skip
          exact WK.fin ok 1000 0 [(151, RV.d (DV.bool false)), (177, RV.d (DV.int Go.IntKind.i64 (Nat.cast (R := Int) e))), (180, RV.d (DV.bool true)), (181, RV.d (DV.bool true)), (184, RV.d (DV.bool true)), (185, RV.d (DV.bool true)), (194, RV.d (DV.bool true)), (195, RV.d (DV.bool true)), (198, RV.d (DV.bool true)), (199, RV.d (DV.bool true)), (208, RV.d (DV.bool true)), (209, RV.d (DV.bool true)), (212, RV.d (DV.bool true)), (213, RV.d (DV.bool true))] [true, true, l.all isC, true, decide ((Nat.cast (R := Int) i) < (Nat.cast (R := Int) m)), decide ((Nat.cast (R := Int) m) < (Nat.cast (R := Int) e)), decide ((Nat.cast (R := Int) e) ≤ (Nat.cast (R := Int) l.length)), decide (l.length ≤ 65536), true, true, (rotL l (Nat.cast (R := Int) i).toNat (Nat.cast (R := Int) m).toNat (Nat.cast (R := Int) e).toNat).all isC, true, decide ((Nat.cast (R := Int) a) < (Nat.cast (R := Int) i)), decide ((Nat.cast (R := Int) i) < (Nat.cast (R := Int) h)), decide ((Nat.cast (R := Int) h) ≤ (Nat.cast (R := Int) (rotL l (Nat.cast (R := Int) i).toNat (Nat.cast (R := Int) m).toNat (Nat.cast (R := Int) e).toNat).length)), decide ((rotL l (Nat.cast (R := Int) i).toNat (Nat.cast (R := Int) m).toNat (Nat.cast (R := Int) e).toNat).length ≤ 65536), srtP (rotL l (Nat.cast (R := Int) i).toNat (Nat.cast (R := Int) m).toNat (Nat.cast (R := Int) e).toNat) (Nat.cast (R := Int) a).toNat (Nat.cast (R := Int) i).toNat, srtP (rotL l (Nat.cast (R := Int) i).toNat (Nat.cast (R := Int) m).toNat (Nat.cast (R := Int) e).toNat) (Nat.cast (R := Int) i).toNat (Nat.cast (R := Int) h).toNat, decide ((Nat.cast (R := Int) h) - (Nat.cast (R := Int) a) < (Nat.cast (R := Int) N)), true, true, (symL (rotL l (Nat.cast (R := Int) i).toNat (Nat.cast (R := Int) m).toNat (Nat.cast (R := Int) e).toNat) (Nat.cast (R := Int) a).toNat (Nat.cast (R := Int) i).toNat (Nat.cast (R := Int) h).toNat).all isC, true, decide ((Nat.cast (R := Int) h) < (Nat.cast (R := Int) e)), decide ((Nat.cast (R := Int) e) < (Nat.cast (R := Int) b)), decide ((Nat.cast (R := Int) b) ≤ (Nat.cast (R := Int) (symL (rotL l (Nat.cast (R := Int) i).toNat (Nat.cast (R := Int) m).toNat (Nat.cast (R := Int) e).toNat) (Nat.cast (R := Int) a).toNat (Nat.cast (R := Int) i).toNat (Nat.cast (R := Int) h).toNat).length)), decide ((symL (rotL l (Nat.cast (R := Int) i).toNat (Nat.cast (R := Int) m).toNat (Nat.cast (R := Int) e).toNat) (Nat.cast (R := Int) a).toNat (Nat.cast (R := Int) i).toNat (Nat.cast (R := Int) h).toNat).length ≤ 65536), srtP (symL (rotL l (Nat.cast (R := Int) i).toNat (Nat.cast (R := Int) m).toNat (Nat.cast (R := Int) e).toNat) (Nat.cast (R := Int) a).toNat (Nat.cast (R := Int) i).toNat (Nat.cast (R := Int) h).toNat) (Nat.cast (R := Int) h).toNat (Nat.cast (R := Int) e).toNat, srtP (symL (rotL l (Nat.cast (R := Int) i).toNat (Nat.cast (R := Int) m).toNat (Nat.cast (R := Int) e).toNat) (Nat.cast (R := Int) a).toNat (Nat.cast (R := Int) i).toNat (Nat.cast (R := Int) h).toNat) (Nat.cast (R := Int) e).toNat (Nat.cast (R := Int) b).toNat, decide ((Nat.cast (R := Int) b) - (Nat.cast (R := Int) h) < (Nat.cast (R := Int) N))] [(RV.d (DV.bool (decide ((Nat.cast (R := Int) i) < (Nat.cast (R := Int) j)))), RV.d (DV.bool false)), (RV.d (DV.int Go.IntKind.i64 (Go.IntKind.i64.wrap ((Nat.cast (R := Int) n) - (Nat.cast (R := Int) i)))), RV.d (DV.int Go.IntKind.i64 (Nat.cast (R := Int) e))), (RV.d (DV.bool (decide ((Nat.cast (R := Int) i) < (Nat.cast (R := Int) m)))), RV.d (DV.bool true)), (RV.d (DV.bool true), RV.d (DV.bool true)), (RV.d (DV.bool (decide ((Nat.cast (R := Int) m) < (Nat.cast (R := Int) e)))), RV.d (DV.bool true)), (RV.d (DV.bool true), RV.d (DV.bool true)), (RV.d (DV.bool (decide ((Nat.cast (R := Int) a) < (Nat.cast (R := Int) i)))), RV.d (DV.bool true)), (RV.d (DV.bool true), RV.d (DV.bool true)), (RV.d (DV.bool (decide ((Nat.cast (R := Int) i) < (Nat.cast (R := Int) h)))), RV.d (DV.bool true)), (RV.d (DV.bool true), RV.d (DV.bool true)), (RV.d (DV.bool (decide ((Nat.cast (R := Int) h) < (Nat.cast (R := Int) e)))), RV.d (DV.bool true)), (RV.d (DV.bool true), RV.d (DV.bool true)), (RV.d (DV.bool (decide ((Nat.cast (R := Int) e) < (Nat.cast (R := Int) b)))), RV.d (DV.bool true)), (RV.d (DV.bool true), RV.d (DV.bool true))] rfl (by kernel_rfl : runEnd (cfB (ts3 N)) false _ 1000 0 _ _ (sy3 l (a : Int) (m : Int) (b : Int) (h : Int) (n : Int) (i : Int) (j : Int) (p : Int)) = some (RV.tup [], [PObj.arr 46 4 (symL (symL (rotL l (Nat.cast (R := Int) i).toNat (Nat.cast (R := Int) m).toNat (Nat.cast (R := Int) e).toNat) (Nat.cast (R := Int) a).toNat (Nat.cast (R := Int) i).toNat (Nat.cast (R := Int) h).toNat) (Nat.cast (R := Int) h).toNat (Nat.cast (R := Int) e).toNat (Nat.cast (R := Int) b).toNat)], _, _)) (by refine ⟨?_, ?_, ?_, ?_, ?_, ?_, ?_, ?_, ?_, ?_, ?_, ?_, ?_, ?_, ?_, ?_, ?_, ?_, ?_, ?_, ?_, ?_, ?_, ?_, ?_, ?_, ?_, ?_, ?_, ?_, trivial⟩ <;> (first | rfl | assumption | exact decide_eq_true (by omega) | (simp only [Int.toNat_natCast, hR, hF]; first | assumption | exact decide_eq_true (by omega)))) (by refine ⟨?_, ?_, ?_, ?_, ?_, ?_, ?_, ?_, ?_, ?_, ?_, ?_, ?_, ?_, trivial⟩ <;> (first | exact le_bool rfl | exact le_bool (decide_eq_true (by omega)) | exact le_bool (decide_eq_false (by omega)) | exact ov_sub (by omega) (by omega))) ⟨rfl, by first | rfl | (simp only [Int.toNat_natCast, hR, hF, hS]; rfl)⟩
end Go.Proofs.Ytljfolepmkcjlaa

/-
  The search of the symmetric merge, run.
-/
namespace Go.Proofs.Ytljfolepmkcjlaa
open Go.RowKit Plain Am IntWalk
set_option maxRecDepth 100000
set_option linter.unusedVariables false
set_option linter.unusedSimpArgs false

theorem all_isC' {l : List Chg} (h : okL l) : (l.map chD).all isC = true := all_isC h.2
set_option maxHeartbeats 4000000 in
/-- behind the search, in parts -/
theorem sy_join {N : Nat} (hent : EntsOk Try.prog (ts3 N)) (A X1 X2 Y1 Y2 B : List Chg) (hok : okL (A ++ (X1 ++ (X2 ++ (Y1 ++ (Y2 ++ B)))))) (sX1 : Srt.srtB cmpC X1 = true) (sX2 : Srt.srtB cmpC X2 = true) (sY1 : Srt.srtB cmpC Y1 = true) (sY2 : Srt.srtB cmpC Y2 = true)
    (a i m e b h n p : Nat) (ha : A.length = a) (hi : a + X1.length = i) (hm : i + X2.length = m) (he : m + Y1.length = e) (hb : e + Y2.length = b) (hh : i + Y1.length = h) (hn : i + e = n) (h1 : a < h) (h2 : h < b) (hN1 : h < N + a) (hN2 : b < N + h) :
    WK Try.prog 1 (stackAt syC 4) (sy3 ((A ++ (X1 ++ (X2 ++ (Y1 ++ (Y2 ++ B))))).map chD) (a : Int) (m : Int) (b : Int) (h : Int) (n : Int) (i : Int) (i : Int) (p : Int)).den (EndsY ((A ++ ((Srt.mrg cmpC X1 Y1 ++ Srt.mrg cmpC X2 Y2) ++ B)).map chD)) := by
  have p1 : okL (A ++ (X1 ++ (Y1 ++ (X2 ++ (Y2 ++ B))))) := okL_perm hok ((List.Perm.append_left _ (List.Perm.append_left _ (by
    rw [← List.append_assoc, ← List.append_assoc X2]; exact (List.perm_append_comm).append_right _))))
  have p2 : okL (A ++ (Srt.mrg cmpC X1 Y1 ++ (X2 ++ (Y2 ++ B)))) := okL_perm p1 (List.Perm.append_left _ (by
    rw [← List.append_assoc X1]; exact (Srt.mrg_perm cmpC _ X1 Y1 (Nat.le_refl _)).append_right _))
  have ml := Srt.mrg_length cmpC X1 Y1
  have hlen : a + (X1.length + (X2.length + (Y1.length + (Y2.length + B.length)))) ≤ 65536 := by have := hok.1; simp only [List.length_append] at this; omega
  refine sy_end hent _ ((A ++ (X1 ++ (Y1 ++ (X2 ++ (Y2 ++ B))))).map chD) ((A ++ (Srt.mrg cmpC X1 Y1 ++ (X2 ++ (Y2 ++ B)))).map chD) _ a i i m e h b n p (by omega) (by omega) (by omega) (by omega) (by omega) (by omega) h1 h2 hn (by omega) (Nat.le_refl _)
    (by simp only [List.length_map, List.length_append]; omega) (by simp only [List.length_map, List.length_append]; omega) (all_isC' hok) (all_isC' p1) (all_isC' p2) (by simp only [List.length_map, List.length_append]; omega) (by simp only [List.length_map, List.length_append]; omega)
    (rotL_eq A X1 X2 Y1 _ (by omega) (by omega) (by omega)) (symL_eq A X1 Y1 _ (by omega) (by omega) (by omega)) ?_ ?_ ?_ ?_ ?_ ?_ ?_ ?_ hN1 hN2
  · have := symL_eq (A ++ Srt.mrg cmpC X1 Y1) X2 Y2 B (p := h) (m := e) (q := b) (by simp only [List.length_append]; omega) (by omega) (by omega)
    simpa using this
  · rintro (h | h)
    · rw [List.eq_nil_of_length_eq_zero (l := X2) (by omega)]; rfl
    · rw [List.eq_nil_of_length_eq_zero (l := Y1) (by omega)]; rfl
  · rintro (h | h)
    · rw [List.eq_nil_of_length_eq_zero (l := X1) (by omega), Srt.mrg_nil_l]; rfl
    · rw [List.eq_nil_of_length_eq_zero (l := Y1) (by omega), Srt.mrg_nil_r]; rfl
  · rintro (h | h)
    · rw [List.eq_nil_of_length_eq_zero (l := X2) (by omega), Srt.mrg_nil_l]; simp
    · rw [List.eq_nil_of_length_eq_zero (l := Y2) (by omega), Srt.mrg_nil_r]; simp
  · rw [srtP_eq A X1 _ (by omega) (by omega)]; exact sX1
  · have := srtP_eq (A ++ X1) Y1 (X2 ++ (Y2 ++ B)) (p := i) (m := h) (by simp only [List.length_append]; omega) (by omega)
    rw [List.append_assoc] at this
    rw [this]; exact sY1
  · have := srtP_eq (A ++ Srt.mrg cmpC X1 Y1) X2 (Y2 ++ B) (p := h) (m := e) (by simp only [List.length_append]; omega) (by omega)
    rw [List.append_assoc] at this
    rw [this]; exact sX2
  · have := srtP_eq (A ++ Srt.mrg cmpC X1 Y1 ++ X2) Y2 B (p := e) (m := b) (by simp only [List.length_append]; omega) (by omega)
    rw [List.append_assoc, List.append_assoc] at this
    rw [this]; exact sY2
set_option maxHeartbeats 4000000 in
theorem sy_find {N : Nat} (hent : EntsOk Try.prog (ts3 N)) (A X Y B : List Chg) (hx : 2 ≤ X.length) (hy : 2 ≤ Y.length) (hok : okL (A ++ (X ++ (Y ++ B)))) (sX : Srt.srtB cmpC X = true) (sY : Srt.srtB cmpC Y = true) (hN : X.length + Y.length ≤ N)
    (a m b h n p s0 r0 : Nat) (ha : A.length = a) (hm : a + X.length = m) (hb : m + Y.length = b) (hh : (a + b) / 2 = h) (hn : h + m = n) (hp : p + 1 = n) (hs : (h < m ∧ s0 + b = n ∧ r0 = h) ∨ (m ≤ h ∧ s0 = a ∧ r0 = m)) :
    WK Try.prog 1 (stackAt syC 4) (sy3 ((A ++ (X ++ (Y ++ B))).map chD) (a : Int) (m : Int) (b : Int) (h : Int) (n : Int) (s0 : Int) (r0 : Int) (p : Int)).den (EndsY ((A ++ (Srt.mrg cmpC X Y ++ B)).map chD)) := by
  have ok := cfB_ok hent
  obtain ⟨T, hT⟩ : ∃ T, (A ++ (Srt.mrg cmpC X Y ++ B)).map chD = T := ⟨_, rfl⟩
  have hlen : a + (X.length + (Y.length + B.length)) ≤ 65536 := by have := hok.1; simp only [List.length_append] at this; omega
  have gX : ∀ (k : Nat) (x : Chg), a ≤ k → X[k - a]? = some x → (A ++ (X ++ (Y ++ B)))[k]? = some x := fun k x hk h => by
    have hw := (List.getElem?_eq_some_iff.1 h).1
    rw [get_in _ _ _ (by omega) (by omega), ← h, ha]
  have gY : ∀ (k : Nat) (y : Chg), m ≤ k → Y[k - m]? = some y → (A ++ (X ++ (Y ++ B)))[k]? = some y := fun k y hk h => by
    have hw := (List.getElem?_eq_some_iff.1 h).1
    rw [show A ++ (X ++ (Y ++ B)) = (A ++ X) ++ (Y ++ B) by simp, get_in _ _ _ (by simp; omega) (by simp; omega), ← h]
    congr 1; simp; omega
  rw [hT]
  have key := WK.rec' (P := Try.prog) (m := 1) (k := stackAt syC 4) (Q := EndsY T) (fun (q : Nat × Nat) => sy3 ((A ++ (X ++ (Y ++ B))).map chD) (a : Int) (m : Int) (b : Int) (h : Int) (n : Int) (q.1 : Int) (q.2 : Int) (p : Int))
    (fun q => s0 ≤ q.1 ∧ q.1 ≤ q.2 ∧ q.2 ≤ r0 ∧ (q.1 = s0 ∨ ∃ x y, X[q.1 - 1 - a]? = some x ∧ Y[n - q.1 - m]? = some y ∧ ¬ cmpC y x < 0) ∧ (q.2 = r0 ∨ ∃ x y, X[q.2 - a]? = some x ∧ Y[p - q.2 - m]? = some y ∧ cmpC y x < 0)) (fun q => q.2 - q.1) ?_ (s0, r0) ⟨Nat.le_refl _, by simp only; omega, Nat.le_refl _, .inl rfl, .inl rfl⟩
  · exact key
  rintro ⟨i, j⟩ ⟨h1, h2, h3, h4, h5⟩ ih
  simp only at h1 h2 h3 h4 h5 ih ⊢
  by_cases hlt : i < j
  · obtain ⟨k, hk⟩ : ∃ k, (i + j) / 2 = k := ⟨_, rfl⟩
    obtain ⟨q, hq⟩ : ∃ q, p - k = q := ⟨_, rfl⟩
    have ix : k - a < X.length ∧ a ≤ k ∧ s0 ≤ k ∧ i ≤ k ∧ k < j := by clear h4 h5 ih; omega
    have iy : q - m < Y.length ∧ m ≤ q ∧ q + k = p := by clear h4 h5 ih; omega
    obtain ⟨ix1, ix2, ix3, ix4, ix5⟩ := ix
    obtain ⟨iy1, iy2, iy3⟩ := iy
    have hn1 : n - (k + 1) - m = q - m := by clear h4 h5 ih; omega
    obtain ⟨x, hx'⟩ : ∃ x, X[k - a]'ix1 = x := ⟨_, rfl⟩
    obtain ⟨y, hy'⟩ : ∃ y, Y[q - m]'iy1 = y := ⟨_, rfl⟩
    have hxw : X[k - a]? = some x := by rw [List.getElem?_eq_getElem ix1, hx']
    have hyw : Y[q - m]? = some y := by rw [List.getElem?_eq_getElem iy1, hy']
    have gx := gX k x ix2 hxw
    have gy := gY q y iy2 hyw
    have hxo : Chg.ok x := hok.2 x (by have := List.mem_of_getElem? hxw; simp [this])
    have hyo : Chg.ok y := hok.2 y (by have := List.mem_of_getElem? hyw; simp [this])
    have hlo : ¬ cmpC y x < 0 → _ := fun h => ih (k + 1, j) ⟨Nat.le_trans ix3 (Nat.le_succ k), ix5, h3, .inr ⟨x, y, by simp only [Nat.add_sub_cancel]; exact hxw, by simp only; rw [hn1]; exact hyw, h⟩, h5⟩ (by clear h4 h5 ih; simp only; omega)
    have hhi : cmpC y x < 0 → _ := fun h => ih (i, k) ⟨h1, ix4, by clear h4 h5 ih; simp only; omega, h4, .inr ⟨x, y, hxw, by simp only; rw [hq]; exact hyw, h⟩⟩ (by clear h4 h5 ih; simp only; omega)
    simp only at hlo hhi
    clear h4 h5 ih
    generalize A ++ (X ++ (Y ++ B)) = L at *
    have hlk := lt_of_some gy
    have hml : (L.map chD).length = L.length := List.length_map ..
    obtain ⟨l, hl⟩ : ∃ l, L.map chD = l := ⟨_, rfl⟩
    have bx1 := bd_in gx
    have bx2 := bd_in2 gx
    have bx3 := bd_ble gx
    have bx4 := ov_load gx
    have by1 := bd_in gy
    have by2 := bd_in2 gy
    have by3 := bd_ble gy
    have by4 := ov_load gy
    rw [hl] at hlo hhi bx1 bx2 bx3 bx4 by1 by2 by3 by4 ⊢
    rcases Bool.eq_false_or_eq_true (!decide (Plain.cmpC y x < 0) : Bool) with h171 | h171
    · skip
      refine WK.segA ok 1000 0 [(151, RV.d (DV.bool true)), (157, RV.d (DV.int Go.IntKind.i64 (Nat.cast (R := Int) k))), (162, RV.d (DV.int Go.IntKind.i64 (Nat.cast (R := Int) q))), (164, RV.d (DV.agg [DV.str y.1, DV.lst 3 (List.map vD y.2) false, DV.lst 3 (List.map vD y.3) false, DV.lst 3 (List.map vD y.4) false])), (168, RV.d (DV.agg [DV.str x.1, DV.lst 3 (List.map vD x.2) false, DV.lst 3 (List.map vD x.3) false, DV.lst 3 (List.map vD x.4) false])), (169, RV.d (DV.int Go.IntKind.i64 (Plain.cmpC y x))), (173, RV.d (DV.int Go.IntKind.i64 (Nat.cast (R := Int) (k + 1)))), (171, RV.d (DV.bool true))] [] [0, 1, 2, 3, 4, 18, 19, 20, 21, 22] [true, decide (0 ≤ (Nat.cast (R := Int) q) ∧ (Nat.cast (R := Int) q) < (Nat.cast (R := Int) l.length)), decide ((Nat.cast (R := Int) q).toNat < l.length), Nat.ble 4 (l.getD (Nat.cast (R := Int) q).toNat DV.nilp).cells.length, decide (0 ≤ (Nat.cast (R := Int) k) ∧ (Nat.cast (R := Int) k) < (Nat.cast (R := Int) l.length)), decide ((Nat.cast (R := Int) k).toNat < l.length), Nat.ble 4 (l.getD (Nat.cast (R := Int) k).toNat DV.nilp).cells.length, isC (DV.agg [DV.str y.1, DV.lst 3 (List.map vD y.2) false, DV.lst 3 (List.map vD y.3) false, DV.lst 3 (List.map vD y.4) false]), isC (DV.agg [DV.str x.1, DV.lst 3 (List.map vD x.2) false, DV.lst 3 (List.map vD x.3) false, DV.lst 3 (List.map vD x.4) false])] [(RV.d (DV.bool (decide ((Nat.cast (R := Int) i) < (Nat.cast (R := Int) j)))), RV.d (DV.bool true)), (RV.d (DV.int Go.IntKind.i64 (Go.IntKind.i64.wrap ((Go.IntKind.u64.wrap (Go.IntKind.i64.wrap ((Nat.cast (R := Int) i) + (Nat.cast (R := Int) j)))).fdiv (2)))), RV.d (DV.int Go.IntKind.i64 (Nat.cast (R := Int) k))), (RV.d (DV.int Go.IntKind.i64 (Go.IntKind.i64.wrap ((Nat.cast (R := Int) p) - (Nat.cast (R := Int) k)))), RV.d (DV.int Go.IntKind.i64 (Nat.cast (R := Int) q))), (RV.d (DV.agg (List.take 4 (List.drop 0 (l.getD (Nat.cast (R := Int) q).toNat DV.nilp).cells))), RV.d (DV.agg [DV.str y.1, DV.lst 3 (List.map vD y.2) false, DV.lst 3 (List.map vD y.3) false, DV.lst 3 (List.map vD y.4) false])), (RV.d (DV.agg (List.take 4 (List.drop 0 (l.getD (Nat.cast (R := Int) k).toNat DV.nilp).cells))), RV.d (DV.agg [DV.str x.1, DV.lst 3 (List.map vD x.2) false, DV.lst 3 (List.map vD x.3) false, DV.lst 3 (List.map vD x.4) false])), (RV.d (DV.int Go.IntKind.i64 (Plain.cmpC { t := y.1, k := List.map toVal (List.map vD y.k), o := List.map toVal (List.map vD y.o), n := List.map toVal (List.map vD y.n) } { t := x.1, k := List.map toVal (List.map vD x.k), o := List.map toVal (List.map vD x.o), n := List.map toVal (List.map vD x.n) })), RV.d (DV.int Go.IntKind.i64 (Plain.cmpC y x))), (RV.d (DV.bool !decide (Plain.cmpC y x < 0)), RV.d (DV.bool true)), (RV.d (DV.int Go.IntKind.i64 (Go.IntKind.i64.wrap ((Nat.cast (R := Int) k) + 1))), RV.d (DV.int Go.IntKind.i64 (Nat.cast (R := Int) (k + 1))))] rfl (by kernel_rfl : runSegA (cfB (ts3 N)) 1000 0 _ _ _ _ (sy3 l (a : Int) (m : Int) (b : Int) (h : Int) (n : Int) (i : Int) (j : Int) (p : Int)) = some (stackAt syC 4, sy3 l (a : Int) (m : Int) (b : Int) (h : Int) (n : Int) (Nat.cast (R := Int) (k + 1)) (Nat.cast (R := Int) j) (p : Int), _, _)) (by refine ⟨?_, ?_, ?_, ?_, ?_, ?_, ?_, ?_, ?_, trivial⟩ <;> (first | rfl | exact bx1 | exact bx2 | exact bx3 | exact by1 | exact by2 | exact by3 | exact isC_chD hxo | exact isC_chD hyo)) (by refine ⟨?_, ?_, ?_, ?_, ?_, ?_, le_bool h171, ?_, trivial⟩ <;> (first | exact le_bool (decide_eq_true (by omega)) | exact ov_half (by omega) (by omega) | exact ov_sub (by omega) (by omega) | exact bx4 | exact by4 | exact ov_C y x | exact ov_succ (by omega))) ?_
      first | exact hlo (by simpa using h171) | exact hhi (by simpa using h171)
    · skip
      refine WK.segA ok 1000 0 [(151, RV.d (DV.bool true)), (157, RV.d (DV.int Go.IntKind.i64 (Nat.cast (R := Int) k))), (162, RV.d (DV.int Go.IntKind.i64 (Nat.cast (R := Int) q))), (164, RV.d (DV.agg [DV.str y.1, DV.lst 3 (List.map vD y.2) false, DV.lst 3 (List.map vD y.3) false, DV.lst 3 (List.map vD y.4) false])), (168, RV.d (DV.agg [DV.str x.1, DV.lst 3 (List.map vD x.2) false, DV.lst 3 (List.map vD x.3) false, DV.lst 3 (List.map vD x.4) false])), (169, RV.d (DV.int Go.IntKind.i64 (Plain.cmpC y x))), (173, RV.d (DV.int Go.IntKind.i64 (Nat.cast (R := Int) (k + 1)))), (171, RV.d (DV.bool false))] [] [0, 1, 2, 3, 4, 18, 19, 20, 21, 22] [true, decide (0 ≤ (Nat.cast (R := Int) q) ∧ (Nat.cast (R := Int) q) < (Nat.cast (R := Int) l.length)), decide ((Nat.cast (R := Int) q).toNat < l.length), Nat.ble 4 (l.getD (Nat.cast (R := Int) q).toNat DV.nilp).cells.length, decide (0 ≤ (Nat.cast (R := Int) k) ∧ (Nat.cast (R := Int) k) < (Nat.cast (R := Int) l.length)), decide ((Nat.cast (R := Int) k).toNat < l.length), Nat.ble 4 (l.getD (Nat.cast (R := Int) k).toNat DV.nilp).cells.length, isC (DV.agg [DV.str y.1, DV.lst 3 (List.map vD y.2) false, DV.lst 3 (List.map vD y.3) false, DV.lst 3 (List.map vD y.4) false]), isC (DV.agg [DV.str x.1, DV.lst 3 (List.map vD x.2) false, DV.lst 3 (List.map vD x.3) false, DV.lst 3 (List.map vD x.4) false])] [(RV.d (DV.bool (decide ((Nat.cast (R := Int) i) < (Nat.cast (R := Int) j)))), RV.d (DV.bool true)), (RV.d (DV.int Go.IntKind.i64 (Go.IntKind.i64.wrap ((Go.IntKind.u64.wrap (Go.IntKind.i64.wrap ((Nat.cast (R := Int) i) + (Nat.cast (R := Int) j)))).fdiv (2)))), RV.d (DV.int Go.IntKind.i64 (Nat.cast (R := Int) k))), (RV.d (DV.int Go.IntKind.i64 (Go.IntKind.i64.wrap ((Nat.cast (R := Int) p) - (Nat.cast (R := Int) k)))), RV.d (DV.int Go.IntKind.i64 (Nat.cast (R := Int) q))), (RV.d (DV.agg (List.take 4 (List.drop 0 (l.getD (Nat.cast (R := Int) q).toNat DV.nilp).cells))), RV.d (DV.agg [DV.str y.1, DV.lst 3 (List.map vD y.2) false, DV.lst 3 (List.map vD y.3) false, DV.lst 3 (List.map vD y.4) false])), (RV.d (DV.agg (List.take 4 (List.drop 0 (l.getD (Nat.cast (R := Int) k).toNat DV.nilp).cells))), RV.d (DV.agg [DV.str x.1, DV.lst 3 (List.map vD x.2) false, DV.lst 3 (List.map vD x.3) false, DV.lst 3 (List.map vD x.4) false])), (RV.d (DV.int Go.IntKind.i64 (Plain.cmpC { t := y.1, k := List.map toVal (List.map vD y.k), o := List.map toVal (List.map vD y.o), n := List.map toVal (List.map vD y.n) } { t := x.1, k := List.map toVal (List.map vD x.k), o := List.map toVal (List.map vD x.o), n := List.map toVal (List.map vD x.n) })), RV.d (DV.int Go.IntKind.i64 (Plain.cmpC y x))), (RV.d (DV.bool !decide (Plain.cmpC y x < 0)), RV.d (DV.bool false))] rfl (by kernel_rfl : runSegA (cfB (ts3 N)) 1000 0 _ _ _ _ (sy3 l (a : Int) (m : Int) (b : Int) (h : Int) (n : Int) (i : Int) (j : Int) (p : Int)) = some (stackAt syC 4, sy3 l (a : Int) (m : Int) (b : Int) (h : Int) (n : Int) (Nat.cast (R := Int) i) (Nat.cast (R := Int) k) (p : Int), _, _)) (by refine ⟨?_, ?_, ?_, ?_, ?_, ?_, ?_, ?_, ?_, trivial⟩ <;> (first | rfl | exact bx1 | exact bx2 | exact bx3 | exact by1 | exact by2 | exact by3 | exact isC_chD hxo | exact isC_chD hyo)) (by refine ⟨?_, ?_, ?_, ?_, ?_, ?_, le_bool h171, trivial⟩ <;> (first | exact le_bool (decide_eq_true (by omega)) | exact ov_half (by omega) (by omega) | exact ov_sub (by omega) (by omega) | exact bx4 | exact by4 | exact ov_C y x | exact ov_succ (by omega))) ?_
      first | exact hlo (by simpa using h171) | exact hhi (by simpa using h171)
  · have e : i = j := by omega
    subst e
    obtain ⟨s, hs'⟩ : ∃ s, i - a = s := ⟨_, rfl⟩
    obtain ⟨u, hu⟩ : ∃ u, n - i - m = u := ⟨_, rfl⟩
    obtain ⟨e, he⟩ : ∃ e, n - i = e := ⟨_, rfl⟩
    have hmm := Srt.sym_at (s := s) (u := u) preC sX sY
      (by
        rcases h4 with h4 | ⟨x, y, g1, g2, g3⟩
        · rcases hs with hs | hs
          · exact .inr (.inl (by omega))
          · exact .inl (by omega)
        · refine .inr (.inr ⟨x, y, ?_, ?_, g3⟩)
          · rw [← g1]; congr 1; omega
          · rw [← g2, hu])
      (by
        rcases h5 with h5 | ⟨x, y, g1, g2, g3⟩
        · rcases hs with hs | hs
          · exact .inr (.inl (by omega))
          · exact .inl (by omega)
        · refine .inr (.inr ⟨x, y, ?_, ?_, g3⟩)
          · rw [← g1, hs']
          · rw [← g2]; congr 1; omega)
    clear h4 h5 ih
    have x1 : (X.take s).length = s := by rw [List.length_take]; omega
    have x2 : (X.drop s).length = X.length - s := List.length_drop
    have y1 : (Y.take u).length = u := by rw [List.length_take]; omega
    have y2 : (Y.drop u).length = Y.length - u := List.length_drop
    have eL : A ++ (X ++ (Y ++ B)) = A ++ (X.take s ++ (X.drop s ++ (Y.take u ++ (Y.drop u ++ B)))) := by
      rw [← List.append_assoc (Y.take u), List.take_append_drop, ← List.append_assoc (X.take s), List.take_append_drop]
    have sX1 := Srt.srtB_take s sX
    have sX2 := Srt.srtB_drop s sX
    have sY1 := Srt.srtB_take u sY
    have sY2 := Srt.srtB_drop u sY
    rw [hmm] at hT
    rw [eL] at hok ⊢
    rw [← hT]
    clear gX gY
    exact sy_join hent A _ _ _ _ B hok sX1 sX2 sY1 sY2 a i m e b h n p ha (by rw [x1]; omega) (by rw [x2]; omega) (by rw [y1]; omega) (by rw [y2]; omega) (by rw [y1]; omega) (by omega) (by omega) (by omega) (by omega) (by omega)
end Go.Proofs.Ytljfolepmkcjlaa

/-
  The symmetric merge, the whole.
-/
namespace Go.Proofs.Ytljfolepmkcjlaa
open Go.RowKit Plain Am IntWalk
set_option maxRecDepth 100000
set_option linter.unusedVariables false
set_option linter.unusedSimpArgs false

set_option maxHeartbeats 4000000 in
theorem sym_c {N : Nat} (hent : EntsOk Try.prog (ts3 N)) (A X Y B : List Chg) (hx : 1 ≤ X.length) (hy : 1 ≤ Y.length) (hok : okL (A ++ (X ++ (Y ++ B)))) (sX : Srt.srtB cmpC X = true) (sY : Srt.srtB cmpC Y = true) (hN : X.length + Y.length ≤ N) :
    C Try.prog 101 [.own 0 4, .d (.int .i64 (A.length : Int)), .d (.int .i64 ((A.length + X.length : Nat) : Int)), .d (.int .i64 ((A.length + X.length + Y.length : Nat) : Int)), cmpv] (arC ((A ++ (X ++ (Y ++ B))).map chD))
      (fun r o => r = .tup [] ∧ o = arC ((A ++ (Srt.mrg cmpC X Y ++ B)).map chD)) := by
  have ok := cfB_ok hent
  refine C_of_run (fn := Try.f101) (body := syC) false (by kernel_rfl) (by kernel_rfl) (by kernel_rfl) ?_
  obtain ⟨a, ha⟩ : ∃ a, A.length = a := ⟨_, rfl⟩
  obtain ⟨m, hm⟩ : ∃ m, a + X.length = m := ⟨_, rfl⟩
  obtain ⟨b, hb⟩ : ∃ b, m + Y.length = b := ⟨_, rfl⟩
  have hlen : a + (X.length + (Y.length + B.length)) ≤ 65536 := by have := hok.1; simp only [List.length_append] at this; omega
  rw [ha, hm, hb]
  by_cases h1 : X.length = 1
  · obtain ⟨x, rfl⟩ : ∃ x, X = [x] := List.length_eq_one_iff.1 h1
    have hd := sy_one hent A x Y B sY hok
    simp only [List.length_singleton] at hm
    rw [ha, hm, hb] at hd
    rw [show A ++ ([x] ++ (Y ++ B)) = A ++ x :: (Y ++ B) by simp]
    obtain ⟨l, hl⟩ : ∃ l, (A ++ x :: (Y ++ B)).map chD = l := ⟨_, rfl⟩
    obtain ⟨T, hT⟩ : ∃ T, (A ++ (Srt.mrg cmpC [x] Y ++ B)).map chD = T := ⟨_, rfl⟩
    rw [hl, hT] at hd
    rw [hl, hT]
    have f1 : decide (m = a + 1) = true := decide_eq_true (by omega)
    refine WK.segA ok 1000 0 [(28, RV.d (DV.bool true))] [] [0, 1, 4, 10, 11] [] [(RV.d (DV.bool (Go.IntKind.i64.wrap ((Nat.cast (R := Int) m) - (Nat.cast (R := Int) a)) == 1)), RV.d (DV.bool true))] rfl (by kernel_rfl : runSegA (cfB (ts3 N)) 1000 0 _ _ _ _ (ini 220 [.own 0 4, .d (.int .i64 (a : Int)), .d (.int .i64 (m : Int)), .d (.int .i64 (b : Int)), cmpv] (arC l)) = some (stackAt syC 0, sy1 l (a : Int) (m : Int) (b : Int), _, _)) trivial ⟨(by exact ov_is1 f1 (by omega) (by omega)), trivial⟩ ?_
    exact hd
  · by_cases h2 : Y.length = 1
    · obtain ⟨y, rfl⟩ : ∃ y, Y = [y] := List.length_eq_one_iff.1 h2
      have hd := sy_last hent A X y B sX hok
      simp only [List.length_singleton] at hb
      rw [ha, hm] at hd
      rw [show A ++ (X ++ ([y] ++ B)) = A ++ (X ++ y :: B) by simp]
      obtain ⟨l, hl⟩ : ∃ l, (A ++ (X ++ y :: B)).map chD = l := ⟨_, rfl⟩
      obtain ⟨T, hT⟩ : ∃ T, (A ++ (Srt.mrg cmpC X [y] ++ B)).map chD = T := ⟨_, rfl⟩
      rw [hl, hT] at hd
      rw [hl, hT]
      have f1 : decide (m = a + 1) = false := decide_eq_false (by omega)
      have f2 : decide (b = m + 1) = true := decide_eq_true (by omega)
      refine WK.segA ok 1000 0 [(28, RV.d (DV.bool false)), (80, RV.d (DV.bool true))] [] [0, 2, 4, 14, 15] [] [(RV.d (DV.bool (Go.IntKind.i64.wrap ((Nat.cast (R := Int) m) - (Nat.cast (R := Int) a)) == 1)), RV.d (DV.bool false)), (RV.d (DV.bool (Go.IntKind.i64.wrap ((Nat.cast (R := Int) b) - (Nat.cast (R := Int) m)) == 1)), RV.d (DV.bool true))] rfl (by kernel_rfl : runSegA (cfB (ts3 N)) 1000 0 _ _ _ _ (ini 220 [.own 0 4, .d (.int .i64 (a : Int)), .d (.int .i64 (m : Int)), .d (.int .i64 (b : Int)), cmpv] (arC l)) = some (stackAt syC 2, sy2 l (m : Int) (a : Int) (m : Int), _, _)) trivial (by refine ⟨?_, ?_, trivial⟩ <;> (first | exact ov_is1 f1 (by omega) (by omega) | exact ov_is1 f2 (by omega) (by omega))) ?_
      exact hd
    · obtain ⟨h, hh⟩ : ∃ h, (a + b) / 2 = h := ⟨_, rfl⟩
      obtain ⟨n, hn⟩ : ∃ n, h + m = n := ⟨_, rfl⟩
      obtain ⟨p, hp⟩ : ∃ p, p + 1 = n := ⟨n - 1, by omega⟩
      obtain ⟨s0, hs0⟩ : ∃ s0, n - b = s0 := ⟨_, rfl⟩
      have hA : decide ((Nat.cast (R := Int) h) < (Nat.cast (R := Int) m)) = true → _ := fun hc => sy_find hent A X Y B (by omega) (by omega) hok sX sY hN a m b h n p s0 h ha hm hb hh hn hp (.inl ⟨by have := of_decide_eq_true hc; omega, by have := of_decide_eq_true hc; omega, rfl⟩)
      have hB : decide ((Nat.cast (R := Int) h) < (Nat.cast (R := Int) m)) = false → _ := fun hc => sy_find hent A X Y B (by omega) (by omega) hok sX sY hN a m b h n p a m ha hm hb hh hn hp (.inr ⟨by have := of_decide_eq_false hc; omega, rfl, rfl⟩)
      obtain ⟨l, hl⟩ : ∃ l, (A ++ (X ++ (Y ++ B))).map chD = l := ⟨_, rfl⟩
      obtain ⟨T, hT⟩ : ∃ T, (A ++ (Srt.mrg cmpC X Y ++ B)).map chD = T := ⟨_, rfl⟩
      rw [hl, hT] at hA hB
      rw [hl, hT]
      have f1 : decide (m = a + 1) = false := decide_eq_false (by omega)
      have f2 : decide (b = m + 1) = false := decide_eq_false (by omega)
      have g1 : a + b ≤ 1000000 := by omega
      have g2 : h + m = n := hn
      have g3 : n ≤ 1000000 := by omega
      have g4 : p + 1 = n := hp
      have g5 : decide ((Nat.cast (R := Int) h) < (Nat.cast (R := Int) m)) = true → s0 + b = n := fun hc => by have := of_decide_eq_true hc; omega
      have g6 : m ≤ 1000000 := by omega
      have g7 : b ≤ 1000000 := by omega
      have g8 : a ≤ m := by omega
      have g9 : m ≤ b := by omega
      rcases Bool.eq_false_or_eq_true (decide ((Nat.cast (R := Int) h) < (Nat.cast (R := Int) m)) : Bool) with h140 | h140
      · skip
        refine WK.segA ok 1000 0 [(28, RV.d (DV.bool false)), (80, RV.d (DV.bool false)), (134, RV.d (DV.int Go.IntKind.i64 (Nat.cast (R := Int) h))), (137, RV.d (DV.int Go.IntKind.i64 (Nat.cast (R := Int) n))), (143, RV.d (DV.int Go.IntKind.i64 (Nat.cast (R := Int) s0))), (148, RV.d (DV.int Go.IntKind.i64 (Nat.cast (R := Int) p))), (140, RV.d (DV.bool true))] [] [0, 1, 2, 3, 4, 18, 19, 20, 21, 22] [true] [(RV.d (DV.bool (Go.IntKind.i64.wrap ((Nat.cast (R := Int) m) - (Nat.cast (R := Int) a)) == 1)), RV.d (DV.bool false)), (RV.d (DV.bool (Go.IntKind.i64.wrap ((Nat.cast (R := Int) b) - (Nat.cast (R := Int) m)) == 1)), RV.d (DV.bool false)), (RV.d (DV.int Go.IntKind.i64 (Go.IntKind.i64.wrap ((Go.IntKind.u64.wrap (Go.IntKind.i64.wrap ((Nat.cast (R := Int) a) + (Nat.cast (R := Int) b)))).fdiv (2)))), RV.d (DV.int Go.IntKind.i64 (Nat.cast (R := Int) h))), (RV.d (DV.int Go.IntKind.i64 (Go.IntKind.i64.wrap ((Nat.cast (R := Int) h) + (Nat.cast (R := Int) m)))), RV.d (DV.int Go.IntKind.i64 (Nat.cast (R := Int) n))), (RV.d (DV.bool (decide ((Nat.cast (R := Int) h) < (Nat.cast (R := Int) m)))), RV.d (DV.bool true)), (RV.d (DV.int Go.IntKind.i64 (Go.IntKind.i64.wrap ((Nat.cast (R := Int) n) - (Nat.cast (R := Int) b)))), RV.d (DV.int Go.IntKind.i64 (Nat.cast (R := Int) s0))), (RV.d (DV.int Go.IntKind.i64 (Go.IntKind.i64.wrap ((Nat.cast (R := Int) n) - 1))), RV.d (DV.int Go.IntKind.i64 (Nat.cast (R := Int) p)))] rfl (by kernel_rfl : runSegA (cfB (ts3 N)) 1000 0 _ _ _ _ (ini 220 [.own 0 4, .d (.int .i64 (a : Int)), .d (.int .i64 (m : Int)), .d (.int .i64 (b : Int)), cmpv] (arC l)) = some (stackAt syC 4, sy3 l (a : Int) (m : Int) (b : Int) (h : Int) (n : Int) (Nat.cast (R := Int) s0) (Nat.cast (R := Int) h) (p : Int), _, _)) ⟨(by first | rfl | assumption | (simp; omega)), trivial⟩ (by refine ⟨?_, ?_, ?_, ?_, le_bool h140, ?_, ?_, trivial⟩ <;> (first | exact ov_is1 f1 g6 g8 | exact ov_is1 f2 g7 g9 | exact ov_half hh g1 | exact ov_add g2 g3 | exact ov_dec g4 g3 | exact ov_sub (g5 h140) g3)) ?_
        first | exact hA h140 | exact hB h140
      · skip
        refine WK.segA ok 1000 0 [(28, RV.d (DV.bool false)), (80, RV.d (DV.bool false)), (134, RV.d (DV.int Go.IntKind.i64 (Nat.cast (R := Int) h))), (137, RV.d (DV.int Go.IntKind.i64 (Nat.cast (R := Int) n))), (143, RV.d (DV.int Go.IntKind.i64 (Nat.cast (R := Int) s0))), (148, RV.d (DV.int Go.IntKind.i64 (Nat.cast (R := Int) p))), (140, RV.d (DV.bool false))] [] [0, 1, 2, 3, 4, 18, 19, 20, 21, 22] [true] [(RV.d (DV.bool (Go.IntKind.i64.wrap ((Nat.cast (R := Int) m) - (Nat.cast (R := Int) a)) == 1)), RV.d (DV.bool false)), (RV.d (DV.bool (Go.IntKind.i64.wrap ((Nat.cast (R := Int) b) - (Nat.cast (R := Int) m)) == 1)), RV.d (DV.bool false)), (RV.d (DV.int Go.IntKind.i64 (Go.IntKind.i64.wrap ((Go.IntKind.u64.wrap (Go.IntKind.i64.wrap ((Nat.cast (R := Int) a) + (Nat.cast (R := Int) b)))).fdiv (2)))), RV.d (DV.int Go.IntKind.i64 (Nat.cast (R := Int) h))), (RV.d (DV.int Go.IntKind.i64 (Go.IntKind.i64.wrap ((Nat.cast (R := Int) h) + (Nat.cast (R := Int) m)))), RV.d (DV.int Go.IntKind.i64 (Nat.cast (R := Int) n))), (RV.d (DV.bool (decide ((Nat.cast (R := Int) h) < (Nat.cast (R := Int) m)))), RV.d (DV.bool false)), (RV.d (DV.int Go.IntKind.i64 (Go.IntKind.i64.wrap ((Nat.cast (R := Int) n) - 1))), RV.d (DV.int Go.IntKind.i64 (Nat.cast (R := Int) p)))] rfl (by kernel_rfl : runSegA (cfB (ts3 N)) 1000 0 _ _ _ _ (ini 220 [.own 0 4, .d (.int .i64 (a : Int)), .d (.int .i64 (m : Int)), .d (.int .i64 (b : Int)), cmpv] (arC l)) = some (stackAt syC 4, sy3 l (a : Int) (m : Int) (b : Int) (h : Int) (n : Int) (Nat.cast (R := Int) a) (Nat.cast (R := Int) m) (p : Int), _, _)) ⟨(by first | rfl | assumption | (simp; omega)), trivial⟩ (by refine ⟨?_, ?_, ?_, ?_, le_bool h140, ?_, trivial⟩ <;> (first | exact ov_is1 f1 g6 g8 | exact ov_is1 f2 g7 g9 | exact ov_half hh g1 | exact ov_add g2 g3 | exact ov_dec g4 g3 | exact ov_sub (g5 h140) g3)) ?_
        first | exact hA h140 | exact hB h140
theorem sym_step {N : Nat} (hent : EntsOk Try.prog (ts3 N)) : EntOk Try.prog 101 (symE (N + 1)) := by
    intro a o r o' c hg hc
    unfold symE at hg
    split at hg
    · rename_i p m q f T els
      simp only [Option.some.injEq, Prod.mk.injEq] at hg
      obtain ⟨rfl, rfl, rfl⟩ := hg
      have hT := nbE (hc (Nat.beq T chT) (by simp))
      have hF := nbE (hc (Nat.beq f 39) (by simp))
      have h1 := hc (els.all isC) (by simp)
      have h2 := of_decide_eq_true (hc (decide (0 ≤ p)) (by simp))
      have h3 := of_decide_eq_true (hc (decide (p < m)) (by simp))
      have h4 := of_decide_eq_true (hc (decide (m < q)) (by simp))
      have h5 := of_decide_eq_true (hc (decide (q ≤ els.length)) (by simp))
      have h6 := of_decide_eq_true (hc (decide (els.length ≤ 65536)) (by simp))
      have h7 := hc (srtP els p.toNat m.toNat) (by simp)
      have h8 := hc (srtP els m.toNat q.toNat) (by simp)
      have h9 := of_decide_eq_true (hc (decide (q - p < ((N + 1 : Nat) : Int))) (by simp))
      subst hT hF
      obtain ⟨L, rfl, hLok⟩ := els_of h1 h6
      rw [List.length_map] at h5 h6
      obtain ⟨p, rfl⟩ : ∃ k : Nat, p = k := ⟨p.toNat, by omega⟩
      obtain ⟨m, rfl⟩ : ∃ k : Nat, m = k := ⟨m.toNat, by omega⟩
      obtain ⟨q, rfl⟩ : ∃ k : Nat, q = k := ⟨q.toNat, by omega⟩
      have e := parts4 L p m q (by omega) (by omega)
      have l1 : (L.take p).length = p := by rw [List.length_take]; omega
      have l2 : (part L p m).length = m - p := part_len (by omega)
      have l3 : (part L m q).length = q - m := part_len (by omega)
      simp only [Int.toNat_natCast] at h7 h8
      unfold srtP at h7 h8
      rw [part_map, unL_map] at h7 h8
      have := sym_c hent (L.take p) (part L p m) (part L m q) (L.drop q) (by omega) (by omega) (by rw [← e]; exact hLok) h7 h8 (by omega)
      rw [← e, l1, l2, l3, show p + (m - p) = m by omega, show m + (q - m) = q by omega] at this
      simp only [Int.toNat_natCast]
      have e2 : symL (L.map chD) p m q = (L.take p ++ (Srt.mrg cmpC (part L p m) (part L m q) ++ L.drop q)).map chD := by
        unfold symL
        rw [part_map, part_map, unL_map, unL_map, ← List.map_take, ← List.map_drop, ← List.map_append, ← List.map_append]
      rw [e2]
      exact this
    · cases hg
theorem sym_ent : ∀ N : Nat, EntOk Try.prog 101 (symE N)
  | 0 => by
    intro a o r o' c hg hc
    unfold symE at hg
    split at hg
    · rename_i p m q f T els
      simp only [Option.some.injEq, Prod.mk.injEq] at hg
      obtain ⟨rfl, rfl, rfl⟩ := hg
      have h3 := of_decide_eq_true (hc (decide (p < m)) (by simp))
      have h4 := of_decide_eq_true (hc (decide (m < q)) (by simp))
      have h9 := of_decide_eq_true (hc (decide (q - p < ((0 : Nat) : Int))) (by simp))
      omega
    · cases hg
  | N + 1 => sym_step (.cons (ccG_ent mc_c) (.cons ro_ent (.cons (sym_ent N) .nil)))
end Go.Proofs.Ytljfolepmkcjlaa

/-
  Stable sorting, run.
-/
namespace Go.Proofs.Ytljfolepmkcjlaa
open Go.RowKit Plain Am IntWalk
set_option maxRecDepth 100000
set_option linter.unusedVariables false
set_option linter.unusedSimpArgs false

noncomputable abbrev stC : Code := bodyOf Try.f88
def st1 (l : List DV) (n a b : Int) : ESt := { n := 63, m := 1, regs := T.mk [(0, .own 0 4), (1, .d (.int .i64 n)), (2, cmpv), (6, .d (.int .i64 20)), (7, .d (.int .i64 a)), (8, .d (.int .i64 b))], objs := T.mk [(0, .arr 46 4 l)] }
def st2 (l : List DV) (n s : Int) : ESt := { n := 63, m := 1, regs := T.mk [(0, .own 0 4), (1, .d (.int .i64 n)), (2, cmpv), (6, .d (.int .i64 s))], objs := T.mk [(0, .arr 46 4 l)] }
def st3 (l : List DV) (n s a b : Int) : ESt := { n := 63, m := 1, regs := T.mk [(0, .own 0 4), (1, .d (.int .i64 n)), (2, cmpv), (6, .d (.int .i64 s)), (7, .d (.int .i64 a)), (8, .d (.int .i64 b))], objs := T.mk [(0, .arr 46 4 l)] }
def insL (els : List DV) (p q : Nat) : List DV := els.take p ++ ((Srt.isort cmpC ((part els p q).map toChg)).map chD ++ els.drop q)
def insE2 : Ent := fun a o => match a, o with
  | [.own 0 4, .d (.int .i64 p), .d (.int .i64 q), .clo (.func f) [] []], [.arr T 4 els] =>
    some (.tup [], [.arr T 4 (insL els p.toNat q.toNat)], [Nat.beq T chT, Nat.beq f 39, els.all isC, decide (0 ≤ p), decide (p ≤ q), decide (q ≤ els.length), decide (els.length ≤ 65536)])
  | _, _ => none
noncomputable def ts4 : List (Nat × Ent) := [(100, insE2), (101, symE 65537)]
/-- sorted blocks of one length, one behind the other -/
inductive Blks (s : Nat) : List Chg → Prop
  | nil : Blks s []
  | cons {X Q : List Chg} (hl : X.length = s) (hs : Srt.srtB cmpC X = true) (hq : Blks s Q) : Blks s (X ++ Q)
theorem Blks.snoc {s : Nat} {P X : List Chg} (h : Blks s P) (hl : X.length = s) (hs : Srt.srtB cmpC X = true) : Blks s (P ++ X) := by
  induction h with
  | nil => have := Blks.cons hl hs .nil; simpa using this
  | cons h1 h2 _ ih => rw [List.append_assoc]; exact .cons h1 h2 ih
theorem Blks.split {s : Nat} {Q : List Chg} (h : Blks s Q) (hn : 1 ≤ Q.length) : ∃ X Q1, Q = X ++ Q1 ∧ X.length = s ∧ Srt.srtB cmpC X = true ∧ Blks s Q1 := by
  cases h with
  | nil => simp at hn
  | cons h1 h2 h3 => exact ⟨_, _, rfl, h1, h2, h3⟩
theorem insL_eq (A U R : List Chg) {p q : Nat} (hp : p = A.length) (hq : q = p + U.length) : insL ((A ++ (U ++ R)).map chD) p q = (A ++ (Srt.isort cmpC U ++ R)).map chD := by
  unfold insL
  have h1 : part (A ++ (U ++ R)) p q = U := part_eq A U _ p q hp (by omega)
  have h3 : (A ++ (U ++ R)).drop q = R := by
    rw [← List.append_assoc]; exact List.drop_left' (by simp; omega)
  rw [part_map, unL_map, h1, ← List.map_take, ← List.map_drop, h3, List.take_left' hp.symm, List.map_append, List.map_append]
theorem ins2_ent : EntOk Try.prog 100 insE2 := ins_ent
theorem ts4_ok : EntsOk Try.prog ts4 := .cons ins2_ent (.cons (sym_ent 65537) .nil)
abbrev EndsSt (l : List DV) : SSt → Prop := EndsB (Try.f88.results.toList) l
theorem isort_len (l : List Chg) : (Srt.isort cmpC l).length = l.length := (Srt.isort_ok preC l).2.length_eq
theorem ov_dbl {s q : Nat} (h : 2 * s = q) (hb : q ≤ 1000000) : RVle (.d (.int .i64 (IntKind.i64.wrap (2 * (Nat.cast (R := Int) s))))) (.d (.int .i64 (Nat.cast (R := Int) q))) := .of_eq (by
  rw [i64_in _ (by omega)]; congr 2; omega)
theorem ov_dbl2 {s q : Nat} (h : 2 * s = q) (hb : q ≤ 1000000) : RVle (.d (.int .i64 (IntKind.i64.wrap ((Nat.cast (R := Int) s) * 2)))) (.d (.int .i64 (Nat.cast (R := Int) q))) := .of_eq (by
  rw [i64_in _ (by omega)]; congr 2; omega)
theorem ov_add20 {s q : Nat} (h : s + 20 = q) (hb : q ≤ 1000000) : RVle (.d (.int .i64 (IntKind.i64.wrap ((Nat.cast (R := Int) s) + 20)))) (.d (.int .i64 (Nat.cast (R := Int) q))) := .of_eq (by
  rw [i64_in _ (by omega)]; congr 2; omega)
theorem ov_adddbl {b s q : Nat} (h : b + 2 * s = q) (hb : q ≤ 1000000) : RVle (.d (.int .i64 (IntKind.i64.wrap ((Nat.cast (R := Int) b) + IntKind.i64.wrap (2 * (Nat.cast (R := Int) s)))))) (.d (.int .i64 (Nat.cast (R := Int) q))) := .of_eq (by
  rw [i64_in (2 * (Nat.cast (R := Int) s)) (by omega), i64_in _ (by omega)]; congr 2; omega)
set_option maxHeartbeats 4000000 in
/-- the blocks are merged in pairs -/
theorem st_merge (L0 : List Chg) (hok : okL L0) (hd : distB L0 = true) (n s : Nat) (hn : L0.length = n) (hs : 1 ≤ s) (hsn : s < n) (P Q R : List Chg) (hp : (P ++ (Q ++ R)).Perm L0) (bP : Blks (2 * s) P) (bQ : Blks s Q) (sR : Srt.srtB cmpC R = true) (lR : R.length < s)
    (hk : ∀ Q' R', (Q' ++ R').Perm L0 → Blks (2 * s) Q' → Srt.srtB cmpC R' = true → R'.length < 2 * s → WK Try.prog 1 (stackAt stC 1) (st2 ((Q' ++ R').map chD) (n : Int) ((2 * s : Nat) : Int)).den (EndsSt ((Srt.isort cmpC L0).map chD))) :
    WK Try.prog 1 (stackAt stC 2) (st3 ((P ++ (Q ++ R)).map chD) (n : Int) (s : Int) (P.length : Int) ((P.length + 2 * s : Nat) : Int)).den (EndsSt ((Srt.isort cmpC L0).map chD)) := by
  have ok := cfB_ok ts4_ok
  obtain ⟨T, hT⟩ : ∃ T, (Srt.isort cmpC L0).map chD = T := ⟨_, rfl⟩
  obtain ⟨dd, hq'⟩ : ∃ dd, 2 * s = dd := ⟨_, rfl⟩
  have hn6 : n ≤ 65536 := by have := hok.1; omega
  rw [hT] at hk ⊢
  rw [hq'] at hk bP ⊢
  have key := WK.rec' (P := Try.prog) (m := 1) (k := stackAt stC 2) (Q := EndsSt T) (fun (q : List Chg × List Chg) => st3 ((q.1 ++ (q.2 ++ R)).map chD) (n : Int) (s : Int) (q.1.length : Int) ((q.1.length + dd : Nat) : Int)) (fun q => (q.1 ++ (q.2 ++ R)).Perm L0 ∧ Blks dd q.1 ∧ Blks s q.2) (fun q => q.2.length) ?_ (P, Q) ⟨hp, bP, bQ⟩
  · exact key
  clear hp bP bQ
  rintro ⟨P, Q⟩ ⟨hp, bP, bQ⟩ ih
  simp only at hp bP bQ ih ⊢
  obtain ⟨a, ha⟩ : ∃ a, P.length = a := ⟨_, rfl⟩
  obtain ⟨b, hb⟩ : ∃ b, a + dd = b := ⟨_, rfl⟩
  obtain ⟨m, hm⟩ : ∃ m, a + s = m := ⟨_, rfl⟩
  have hlen : a + (Q.length + R.length) = n := by have := hp.length_eq; simp only [List.length_append] at this; omega
  have hokc : okL (P ++ (Q ++ R)) := okL_perm hok hp
  by_cases hbn : b ≤ n
  · obtain ⟨X, Q1, rfl, lX, sX, bQ1⟩ := bQ.split (by omega)
    simp only [List.length_append] at hlen
    obtain ⟨Y, Q2, rfl, lY, sY, bQ2⟩ := bQ1.split (by omega)
    simp only [List.length_append] at hlen
    have e0 : P ++ (X ++ (Y ++ Q2) ++ R) = P ++ (X ++ (Y ++ (Q2 ++ R))) := by simp
    have ml := Srt.mrg_length cmpC X Y
    have e1 : symL ((P ++ (X ++ (Y ++ (Q2 ++ R)))).map chD) a m b = ((P ++ Srt.mrg cmpC X Y) ++ (Q2 ++ R)).map chD := by
      rw [symL_eq P X Y (Q2 ++ R) ha.symm (by omega) (by omega)]; simp
    have f1 : srtP ((P ++ (X ++ (Y ++ (Q2 ++ R)))).map chD) a m = true := by rw [srtP_eq P X _ ha.symm (by omega)]; exact sX
    have f2 : srtP ((P ++ (X ++ (Y ++ (Q2 ++ R)))).map chD) m b = true := by
      have := srtP_eq (P ++ X) Y (Q2 ++ R) (p := m) (m := b) (by simp only [List.length_append]; omega) (by omega)
      rw [List.append_assoc] at this
      rw [this]; exact sY
    have hw := ih (P ++ Srt.mrg cmpC X Y, Q2) ⟨by
      refine List.Perm.trans ?_ hp
      rw [e0, List.append_assoc]
      refine List.Perm.append_left _ ?_
      rw [← List.append_assoc X]
      exact (Srt.mrg_perm cmpC _ X Y (Nat.le_refl _)).append_right _, bP.snoc (by omega) (Srt.mrg_sorted preC _ X Y (Nat.le_refl _) sX sY), bQ2⟩ (by simp only [List.length_append]; omega)
    simp only [List.length_append, ml] at hw
    rw [ha, show a + (X.length + Y.length) = b by omega, ← e1] at hw
    obtain ⟨qq, hqq⟩ : ∃ qq, b + dd = qq := ⟨_, rfl⟩
    rw [hqq] at hw
    rw [e0] at hokc ⊢
    have hall := all_isC hokc.2
    have hll : ((P ++ (X ++ (Y ++ (Q2 ++ R)))).map chD).length = n := by simp only [List.length_map, List.length_append]; omega
    obtain ⟨l, hl⟩ : ∃ l, (P ++ (X ++ (Y ++ (Q2 ++ R)))).map chD = l := ⟨_, rfl⟩
    rw [hl] at hall hll hw f1 f2 ⊢
    rw [ha, hb]
    clear ih hk hp hok hokc e0 e1 hl hT
    refine WK.segA ok 1000 0 [(35, RV.d (DV.bool true)), (40, RV.d (DV.int Go.IntKind.i64 (Nat.cast (R := Int) m))), (48, RV.d (DV.int Go.IntKind.i64 (Nat.cast (R := Int) qq)))] [] [0, 1, 2, 6, 7, 8] [true, true, l.all isC, true, decide ((Nat.cast (R := Int) a) < (Nat.cast (R := Int) m)), decide ((Nat.cast (R := Int) m) < (Nat.cast (R := Int) b)), decide ((Nat.cast (R := Int) b) ≤ (Nat.cast (R := Int) l.length)), decide (l.length ≤ 65536), srtP l (Nat.cast (R := Int) a).toNat (Nat.cast (R := Int) m).toNat, srtP l (Nat.cast (R := Int) m).toNat (Nat.cast (R := Int) b).toNat, decide ((Nat.cast (R := Int) b) - (Nat.cast (R := Int) a) < Nat.cast (R := Int)  (65537))] [(RV.d (DV.bool (decide ((Nat.cast (R := Int) b) ≤ (Nat.cast (R := Int) n)))), RV.d (DV.bool true)), (RV.d (DV.int Go.IntKind.i64 (Go.IntKind.i64.wrap ((Nat.cast (R := Int) a) + (Nat.cast (R := Int) s)))), RV.d (DV.int Go.IntKind.i64 (Nat.cast (R := Int) m))), (RV.d (DV.int Go.IntKind.i64 (Go.IntKind.i64.wrap ((Nat.cast (R := Int) b) + Go.IntKind.i64.wrap (2 * (Nat.cast (R := Int) s))))), RV.d (DV.int Go.IntKind.i64 (Nat.cast (R := Int) qq)))] rfl (by kernel_rfl : runSegA (cfB ts4) 1000 0 _ _ _ _ (st3 l (n : Int) (s : Int) (a : Int) (b : Int)) = some (stackAt stC 2, st3 (symL l (Nat.cast (R := Int) a).toNat (Nat.cast (R := Int) m).toNat (Nat.cast (R := Int) b).toNat) (n : Int) (s : Int) (b : Int) (qq : Int), _, _)) (by refine ⟨?_, ?_, ?_, ?_, ?_, ?_, ?_, ?_, ?_, ?_, ?_, trivial⟩ <;> (first | rfl | exact hall | exact f1 | exact f2 | exact decide_eq_true (by omega))) (by refine ⟨?_, ?_, ?_, trivial⟩ <;> (first | exact le_bool (decide_eq_true (by omega)) | exact ov_add hm (by omega) | exact ov_adddbl (by omega) (by omega))) ?_
    simp only [Int.toNat_natCast]
    exact hw
  · have hf : decide ((Nat.cast (R := Int) b) ≤ (Nat.cast (R := Int) n)) = false := decide_eq_false (by omega)
    have hall := all_isC hokc.2
    have hll : ((P ++ (Q ++ R)).map chD).length = n := by simp only [List.length_map, List.length_append]; omega
    have hT1 : decide ((Nat.cast (R := Int) m) < (Nat.cast (R := Int) n)) = true → srtP ((P ++ (Q ++ R)).map chD) a m = true ∧ srtP ((P ++ (Q ++ R)).map chD) m n = true ∧ WK Try.prog 1 (stackAt stC 1) (st2 (symL ((P ++ (Q ++ R)).map chD) a m n) (n : Int) (dd : Int)).den (EndsSt T) := fun hc => by
      have hc' := of_decide_eq_true hc
      obtain ⟨X, Q1, rfl, lX, sX, bQ1⟩ := bQ.split (by omega)
      simp only [List.length_append] at hlen
      have hQ1 : Q1 = [] := by
        rcases Nat.eq_zero_or_pos Q1.length with h | h
        · exact List.eq_nil_of_length_eq_zero h
        · obtain ⟨Y, Q2, rfl, lY, _, _⟩ := bQ1.split h
          simp only [List.length_append] at hlen; omega
      subst hQ1
      have ml := Srt.mrg_length cmpC X R
      simp only [List.length_nil] at hlen
      simp only [List.append_nil] at hp ⊢
      have e1 : symL ((P ++ (X ++ R)).map chD) a m n = (P ++ Srt.mrg cmpC X R).map chD := by
        have := symL_eq P X R [] ha.symm (show m = a + X.length by omega) (q := n) (by omega)
        simpa using this
      refine ⟨by rw [srtP_eq P X R ha.symm (by omega)]; exact sX, ?_, ?_⟩
      · have := srtP_eq (P ++ X) R [] (p := m) (m := n) (by simp only [List.length_append]; omega) (by omega)
        rw [List.append_nil, List.append_assoc] at this
        rw [this]; exact sR
      · rw [e1]
        exact hk P _ ((List.Perm.append_left _ (Srt.mrg_perm cmpC _ X R (Nat.le_refl _))).trans hp) bP (Srt.mrg_sorted preC _ X R (Nat.le_refl _) sX sR) (by omega)
    have hT2 : decide ((Nat.cast (R := Int) m) < (Nat.cast (R := Int) n)) = false → WK Try.prog 1 (stackAt stC 1) (st2 ((P ++ (Q ++ R)).map chD) (n : Int) (dd : Int)).den (EndsSt T) := fun hc => by
      have hc' := of_decide_eq_false hc
      rcases Nat.eq_zero_or_pos Q.length with h | h
      · have := List.eq_nil_of_length_eq_zero h
        subst this
        exact hk P R hp bP sR (by omega)
      · obtain ⟨X, Q1, rfl, lX, sX, bQ1⟩ := bQ.split h
        simp only [List.length_append] at hlen
        have hQ1 := List.eq_nil_of_length_eq_zero (l := Q1) (by omega)
        have hR := List.eq_nil_of_length_eq_zero (l := R) (by omega)
        subst hQ1 hR
        simp only [List.append_nil] at hp ⊢
        have := hk P X hp bP sX (by omega)
        exact this
    obtain ⟨l, hl⟩ : ∃ l, (P ++ (Q ++ R)).map chD = l := ⟨_, rfl⟩
    rw [hl] at hall hll hT1 hT2 ⊢
    rw [ha, hb]
    have hm6 : m ≤ 1000000 := by omega
    have hq6 : dd ≤ 1000000 := by omega
    have hs2 : 2 * s = dd := hq'
    have hlt : decide ((Nat.cast (R := Int) m) < (Nat.cast (R := Int) n)) = true → a < m ∧ m < n := fun hc => by have := of_decide_eq_true hc; omega
    clear ih hk hp hok hokc hl hT bP bQ
    rcases Bool.eq_false_or_eq_true (decide ((Nat.cast (R := Int) m) < (Nat.cast (R := Int) n)) : Bool) with h54 | h54
    · skip
      refine WK.segA ok 1000 0 [(35, RV.d (DV.bool false)), (51, RV.d (DV.int Go.IntKind.i64 (Nat.cast (R := Int) m))), (62, RV.d (DV.int Go.IntKind.i64 (Nat.cast (R := Int) dd))), (54, RV.d (DV.bool true))] [] [0, 1, 2, 6] [true, true, l.all isC, true, decide ((Nat.cast (R := Int) a) < (Nat.cast (R := Int) m)), decide ((Nat.cast (R := Int) m) < (Nat.cast (R := Int) n)), decide ((Nat.cast (R := Int) n) ≤ (Nat.cast (R := Int) l.length)), decide (l.length ≤ 65536), srtP l (Nat.cast (R := Int) a).toNat (Nat.cast (R := Int) m).toNat, srtP l (Nat.cast (R := Int) m).toNat (Nat.cast (R := Int) n).toNat, decide ((Nat.cast (R := Int) n) - (Nat.cast (R := Int) a) < Nat.cast (R := Int)  (65537))] [(RV.d (DV.bool (decide ((Nat.cast (R := Int) b) ≤ (Nat.cast (R := Int) n)))), RV.d (DV.bool false)), (RV.d (DV.int Go.IntKind.i64 (Go.IntKind.i64.wrap ((Nat.cast (R := Int) a) + (Nat.cast (R := Int) s)))), RV.d (DV.int Go.IntKind.i64 (Nat.cast (R := Int) m))), (RV.d (DV.bool (decide ((Nat.cast (R := Int) m) < (Nat.cast (R := Int) n)))), RV.d (DV.bool true)), (RV.d (DV.int Go.IntKind.i64 (Go.IntKind.i64.wrap ((Nat.cast (R := Int) s) * 2))), RV.d (DV.int Go.IntKind.i64 (Nat.cast (R := Int) dd)))] rfl (by kernel_rfl : runSegA (cfB ts4) 1000 0 _ _ _ _ (st3 l (n : Int) (s : Int) (a : Int) (b : Int)) = some (stackAt stC 1, st2 (symL l (Nat.cast (R := Int) a).toNat (Nat.cast (R := Int) m).toNat (Nat.cast (R := Int) n).toNat) (n : Int) (dd : Int), _, _)) (by refine ⟨?_, ?_, ?_, ?_, ?_, ?_, ?_, ?_, ?_, ?_, ?_, trivial⟩ <;> (first | rfl | exact hall | exact (hT1 h54).1 | exact (hT1 h54).2.1 | (have := hlt h54; exact decide_eq_true (by omega)) | exact decide_eq_true (by omega))) (by refine ⟨?_, ?_, le_bool h54, ?_, trivial⟩ <;> (first | exact le_bool hf | exact ov_add hm hm6 | exact ov_dbl2 hs2 hq6)) ?_
      try simp only [Int.toNat_natCast]
      first | exact (hT1 h54).2.2 | exact hT2 h54
    · skip
      refine WK.segA ok 1000 0 [(35, RV.d (DV.bool false)), (51, RV.d (DV.int Go.IntKind.i64 (Nat.cast (R := Int) m))), (62, RV.d (DV.int Go.IntKind.i64 (Nat.cast (R := Int) dd))), (54, RV.d (DV.bool false))] [] [0, 1, 2, 6] [] [(RV.d (DV.bool (decide ((Nat.cast (R := Int) b) ≤ (Nat.cast (R := Int) n)))), RV.d (DV.bool false)), (RV.d (DV.int Go.IntKind.i64 (Go.IntKind.i64.wrap ((Nat.cast (R := Int) a) + (Nat.cast (R := Int) s)))), RV.d (DV.int Go.IntKind.i64 (Nat.cast (R := Int) m))), (RV.d (DV.bool (decide ((Nat.cast (R := Int) m) < (Nat.cast (R := Int) n)))), RV.d (DV.bool false)), (RV.d (DV.int Go.IntKind.i64 (Go.IntKind.i64.wrap ((Nat.cast (R := Int) s) * 2))), RV.d (DV.int Go.IntKind.i64 (Nat.cast (R := Int) dd)))] rfl (by kernel_rfl : runSegA (cfB ts4) 1000 0 _ _ _ _ (st3 l (n : Int) (s : Int) (a : Int) (b : Int)) = some (stackAt stC 1, st2 l (n : Int) (dd : Int), _, _)) trivial (by refine ⟨?_, ?_, le_bool h54, ?_, trivial⟩ <;> (first | exact le_bool hf | exact ov_add hm hm6 | exact ov_dbl2 hs2 hq6)) ?_
      try simp only [Int.toNat_natCast]
      first | exact (hT1 h54).2.2 | exact hT2 h54
set_option maxHeartbeats 4000000 in
theorem st_outer (L0 : List Chg) (hok : okL L0) (hd : distB L0 = true) (n s : Nat) (hn : L0.length = n) (hs : 1 ≤ s) (hs6 : s ≤ 200000) (Q R : List Chg) (hp : (Q ++ R).Perm L0) (bQ : Blks s Q) (sR : Srt.srtB cmpC R = true) (lR : R.length < s) :
    WK Try.prog 1 (stackAt stC 1) (st2 ((Q ++ R).map chD) (n : Int) (s : Int)).den (EndsSt ((Srt.isort cmpC L0).map chD)) := by
  have ok := cfB_ok ts4_ok
  have hn6 : n ≤ 65536 := by have := hok.1; omega
  have key := WK.rec' (P := Try.prog) (m := 1) (k := stackAt stC 1) (Q := EndsSt ((Srt.isort cmpC L0).map chD)) (fun (q : Nat × List Chg × List Chg) => st2 ((q.2.1 ++ q.2.2).map chD) (n : Int) (q.1 : Int)) (fun q => 1 ≤ q.1 ∧ q.1 ≤ 200000 ∧ (q.2.1 ++ q.2.2).Perm L0 ∧ Blks q.1 q.2.1 ∧ Srt.srtB cmpC q.2.2 = true ∧ q.2.2.length < q.1) (fun q => n - q.1) ?_ (s, Q, R) ⟨hs, hs6, hp, bQ, sR, lR⟩
  · exact key
  clear hs hs6 hp bQ sR lR
  rintro ⟨s, Q, R⟩ ⟨hs, hs6, hp, bQ, sR, lR⟩ ih
  simp only at hs hs6 hp bQ sR lR ih ⊢
  have hlen : Q.length + R.length = n := by have := hp.length_eq; simp only [List.length_append] at this; omega
  have hT1 : decide ((Nat.cast (R := Int) s) < (Nat.cast (R := Int) n)) = true → _ := fun hc => by
    have hc' := of_decide_eq_true hc
    exact st_merge L0 hok hd n s hn hs (by omega) [] Q R hp .nil bQ sR lR (fun Q' R' g1 g2 g3 g4 => ih (2 * s, Q', R') ⟨by simp only; omega, by simp only; omega, g1, g2, g3, g4⟩ (by simp only; omega))
  have hT2 : decide ((Nat.cast (R := Int) s) < (Nat.cast (R := Int) n)) = false → (Q ++ R).map chD = (Srt.isort cmpC L0).map chD := fun hc => by
    have hc' := of_decide_eq_false hc
    congr 1
    refine isort_uniq ?_ hp hd
    rcases Nat.eq_zero_or_pos Q.length with h | h
    · rw [List.eq_nil_of_length_eq_zero h]; exact sR
    · obtain ⟨X, Q1, rfl, lX, sX, bQ1⟩ := bQ.split h
      simp only [List.length_append] at hlen
      have hQ1 := List.eq_nil_of_length_eq_zero (l := Q1) (by omega)
      have hR := List.eq_nil_of_length_eq_zero (l := R) (by omega)
      subst hQ1 hR
      simpa using sX
  obtain ⟨dd, hq'⟩ : ∃ dd, 2 * s = dd := ⟨_, rfl⟩
  simp only [List.nil_append, List.length_nil, Nat.zero_add, hq'] at hT1
  obtain ⟨T, hT⟩ : ∃ T, (Srt.isort cmpC L0).map chD = T := ⟨_, rfl⟩
  obtain ⟨l, hl⟩ : ∃ l, (Q ++ R).map chD = l := ⟨_, rfl⟩
  rw [hl, hT] at hT1 hT2 ⊢
  rcases Bool.eq_false_or_eq_true (decide ((Nat.cast (R := Int) s) < (Nat.cast (R := Int) n)) : Bool) with h30 | h30
  · skip
    refine WK.segA ok 1000 0 [(32, RV.d (DV.int Go.IntKind.i64 (Nat.cast (R := Int) dd))), (30, RV.d (DV.bool true))] [] [0, 1, 2, 6, 7, 8] [] [(RV.d (DV.bool (decide ((Nat.cast (R := Int) s) < (Nat.cast (R := Int) n)))), RV.d (DV.bool true)), (RV.d (DV.int Go.IntKind.i64 (Go.IntKind.i64.wrap (2 * (Nat.cast (R := Int) s)))), RV.d (DV.int Go.IntKind.i64 (Nat.cast (R := Int) dd)))] rfl (by kernel_rfl : runSegA (cfB ts4) 1000 0 _ _ _ _ (st2 l (n : Int) (s : Int)) = some (stackAt stC 2, st3 l (n : Int) (s : Int) 0 (dd : Int), _, _)) trivial ⟨le_bool h30, (by exact ov_dbl hq' (by omega)), trivial⟩ ?_
    exact hT1 h30
  · skip
    exact WK.fin ok 1000 0 [(32, RV.d (DV.int Go.IntKind.i64 (Nat.cast (R := Int) dd))), (30, RV.d (DV.bool false))] [] [(RV.d (DV.bool (decide ((Nat.cast (R := Int) s) < (Nat.cast (R := Int) n)))), RV.d (DV.bool false))] rfl (by kernel_rfl : runEnd (cfB ts4) false _ 1000 0 _ _ (st2 l (n : Int) (s : Int)) = some (RV.tup [], [PObj.arr 46 4 l], _, _)) trivial ⟨le_bool h30, trivial⟩ ⟨rfl, by rw [hT2 h30]; rfl⟩
set_option maxHeartbeats 4000000 in
theorem stable_c (L0 : List Chg) (hok : okL L0) (hd : distB L0 = true) :
    C Try.prog 88 [.own 0 4, .d (.int .i64 (L0.length : Int)), cmpv] (arC (L0.map chD)) (fun r o => r = .tup [] ∧ o = arC ((Srt.isort cmpC L0).map chD)) := by
  have ok := cfB_ok ts4_ok
  refine C_of_run (fn := Try.f88) (body := stC) false (by kernel_rfl) (by kernel_rfl) (by kernel_rfl) ?_
  obtain ⟨n, hn⟩ : ∃ n, L0.length = n := ⟨_, rfl⟩
  have hn6 : n ≤ 65536 := by have := hok.1; omega
  obtain ⟨T, hT⟩ : ∃ T, (Srt.isort cmpC L0).map chD = T := ⟨_, rfl⟩
  have hloop : WK Try.prog 1 (stackAt stC 0) (st1 (L0.map chD) (n : Int) 0 20).den (EndsSt T) := by
    have key := WK.rec' (P := Try.prog) (m := 1) (k := stackAt stC 0) (Q := EndsSt T) (fun (q : List Chg × List Chg) => st1 ((q.1 ++ q.2).map chD) (n : Int) (q.1.length : Int) ((q.1.length + 20 : Nat) : Int)) (fun q => (q.1 ++ q.2).Perm L0 ∧ Blks 20 q.1) (fun q => q.2.length) ?_ ([], L0) ⟨.refl _, .nil⟩
    · exact key
    rintro ⟨P, R⟩ ⟨hp, bP⟩ ih
    simp only at hp bP ih ⊢
    obtain ⟨a, ha⟩ : ∃ a, P.length = a := ⟨_, rfl⟩
    obtain ⟨b, hb⟩ : ∃ b, a + 20 = b := ⟨_, rfl⟩
    have hlen : a + R.length = n := by have := hp.length_eq; simp only [List.length_append] at this; omega
    have hokc : okL (P ++ R) := okL_perm hok hp
    have hall := all_isC hokc.2
    have hll : ((P ++ R).map chD).length = n := by simp only [List.length_map, List.length_append]; omega
    by_cases hbn : b ≤ n
    · have lt : (R.take 20).length = 20 := by rw [List.length_take]; omega
      have il := isort_len (R.take 20)
      have e1 : insL ((P ++ R).map chD) a b = ((P ++ Srt.isort cmpC (R.take 20)) ++ R.drop 20).map chD := by
        have := insL_eq P (R.take 20) (R.drop 20) (p := a) (q := b) ha.symm (by omega)
        rw [List.take_append_drop] at this
        rw [this]; simp
      have hw := ih (P ++ Srt.isort cmpC (R.take 20), R.drop 20) ⟨by
        refine List.Perm.trans ?_ hp
        rw [List.append_assoc]
        refine List.Perm.append_left _ ?_
        refine ((Srt.isort_ok preC (R.take 20)).2.append_right _).trans ?_
        rw [List.take_append_drop], bP.snoc (by omega) (Srt.isort_ok preC (R.take 20)).1⟩ (by simp only [List.length_drop]; omega)
      simp only [List.length_append, il, lt] at hw
      rw [ha, hb, ← e1] at hw
      obtain ⟨q, hq⟩ : ∃ q, b + 20 = q := ⟨_, rfl⟩
      rw [hq] at hw
      obtain ⟨l, hl⟩ : ∃ l, (P ++ R).map chD = l := ⟨_, rfl⟩
      rw [hl] at hall hll hw ⊢
      rw [ha, hb]
      clear ih hp hok hokc e1 hl hT bP
      refine WK.segA ok 1000 0 [(13, RV.d (DV.bool true)), (22, RV.d (DV.int Go.IntKind.i64 (Nat.cast (R := Int) q)))] [] [0, 1, 2, 6, 7, 8] [true, true, l.all isC, true, decide ((Nat.cast (R := Int) a) ≤ (Nat.cast (R := Int) b)), decide ((Nat.cast (R := Int) b) ≤ (Nat.cast (R := Int) l.length)), decide (l.length ≤ 65536)] [(RV.d (DV.bool (decide ((Nat.cast (R := Int) b) ≤ (Nat.cast (R := Int) n)))), RV.d (DV.bool true)), (RV.d (DV.int Go.IntKind.i64 (Go.IntKind.i64.wrap ((Nat.cast (R := Int) b) + 20))), RV.d (DV.int Go.IntKind.i64 (Nat.cast (R := Int) q)))] rfl (by kernel_rfl : runSegA (cfB ts4) 1000 0 _ _ _ _ (st1 l (n : Int) (a : Int) (b : Int)) = some (stackAt stC 0, st1 (insL l (Nat.cast (R := Int) a).toNat (Nat.cast (R := Int) b).toNat) (n : Int) (b : Int) (q : Int), _, _)) (by refine ⟨?_, ?_, ?_, ?_, ?_, ?_, ?_, trivial⟩ <;> (first | rfl | exact hall | exact decide_eq_true (by omega))) (by refine ⟨?_, ?_, trivial⟩ <;> (first | exact le_bool (decide_eq_true (by omega)) | exact ov_add20 (by omega) (by omega))) ?_
      simp only [Int.toNat_natCast]
      exact hw
    · have il := isort_len R
      have e1 : insL ((P ++ R).map chD) a n = (P ++ Srt.isort cmpC R).map chD := by
        have := insL_eq P R [] (p := a) (q := n) ha.symm (by omega)
        simpa using this
      have hw := st_outer L0 hok hd n 20 hn (by omega) (by omega) P (Srt.isort cmpC R) ((List.Perm.append_left _ (Srt.isort_ok preC R).2).trans hp) bP (Srt.isort_ok preC R).1 (by omega)
      rw [← e1, hT] at hw
      obtain ⟨l, hl⟩ : ∃ l, (P ++ R).map chD = l := ⟨_, rfl⟩
      rw [hl] at hall hll hw ⊢
      rw [ha, hb]
      have hf : decide ((Nat.cast (R := Int) b) ≤ (Nat.cast (R := Int) n)) = false := decide_eq_false (by omega)
      clear ih hp hok hokc e1 hl hT bP
      refine WK.segA ok 1000 0 [(13, RV.d (DV.bool false))] [] [0, 1, 2, 6] [true, true, l.all isC, true, decide ((Nat.cast (R := Int) a) ≤ (Nat.cast (R := Int) n)), decide ((Nat.cast (R := Int) n) ≤ (Nat.cast (R := Int) l.length)), decide (l.length ≤ 65536)] [(RV.d (DV.bool (decide ((Nat.cast (R := Int) b) ≤ (Nat.cast (R := Int) n)))), RV.d (DV.bool false))] rfl (by kernel_rfl : runSegA (cfB ts4) 1000 0 _ _ _ _ (st1 l (n : Int) (a : Int) (b : Int)) = some (stackAt stC 1, st2 (insL l (Nat.cast (R := Int) a).toNat (Nat.cast (R := Int) n).toNat) (n : Int) 20, _, _)) (by refine ⟨?_, ?_, ?_, ?_, ?_, ?_, ?_, trivial⟩ <;> (first | rfl | exact hall | exact decide_eq_true (by omega))) ⟨(by exact le_bool hf), trivial⟩ ?_
      simp only [Int.toNat_natCast]
      exact hw
  rw [hn, hT]
  obtain ⟨l, hl⟩ : ∃ l, L0.map chD = l := ⟨_, rfl⟩
  rw [hl] at hloop ⊢
  refine WK.segA ok 1000 0 [] [] [0, 1, 2, 6, 7, 8] [] [] rfl (by kernel_rfl : runSegA (cfB ts4) 1000 0 _ _ _ _ (ini 63 [.own 0 4, .d (.int .i64 (n : Int)), cmpv] (arC l)) = some (stackAt stC 0, st1 l (n : Int) 0 20, _, _)) trivial trivial ?_
  exact hloop
end Go.Proofs.Ytljfolepmkcjlaa

/-
  What a function leaves of an array that it was handed, as an array of its own: the first so many elements.
-/
namespace Go.Am
variable {P : Program}

/-- An answer that is the handed array, or its first part, is an array of its own; the handed one is gone. -/
theorem C.own1 {f : FuncId} {args : List RV} {ty sz : Nat} {els els1 : List DV} {v0 : RV} (h : C P f args [.arr ty sz els1] (fun r o => r = v0 ∧ o = [.arr ty sz els]))
    (k : Nat) (hk : k ≤ els.length) (hv : v0 = .sub 0 sz 0 k ∨ (v0 = .own 0 sz ∧ k = els.length)) :
    C P f args [.arr ty sz els1] (fun r o => r = .own 1 sz ∧ o = [.gone, .arr ty sz (els.take k)]) := by
  intro κ φ w vs h1 h2 h3 h4
  refine (h κ φ w vs h1 h2 h3 h4).mono ?_
  rintro e w' ⟨v, r, o, κ', φ', rfl, ⟨hr0, rfl⟩, g1, g2, g3, g4, g5, g6⟩
  rw [hr0] at g1
  have hu : ∀ i, 1 ≤ i → φ' i = .un := fun i hi => by
    have := g2 i
    rw [show tabOf [PObj.arr ty sz els] i = none by simp [tabOf]; omega] at this
    exact this
  have hp1 : (setP φ' 1 (φ' 0)) 1 = φ' 0 := setP_same _ _ _
  have hpo : ∀ i, i ≠ 1 → (setP φ' 1 (φ' 0)) i = φ' i := fun i hi => setP_ne _ _ hi
  have hlt : (els.take k).length = k := by rw [List.length_take]; omega
  have hkp : Kp φ (tabOf [.arr ty sz els1]) (setP φ' 1 (φ' 0)) (tabOf [.gone, .arr ty sz (els.take k)]) := by
    have u1 : φ 1 = .un := by have := h1 1; exact this
    refine ⟨fun i hi => ?_, fun i n hi hn => ?_⟩
    · have : i ≠ 1 := fun e => by subst e; exact hi u1
      rw [hpo i this]; exact g6.phi i hi
    · match i, hn with
      | 0, hn => simp [tabOf, PObj.len?] at hn
      | 1, _ => exact absurd u1 hi
      | i + 2, hn => simp [tabOf, PObj.len?] at hn
  -- the block that the array lies in, if it has one
  have g20 := g2 0
  simp only [tabOf, List.getElem?_cons_zero] at g20
  rcases g20 with ⟨n1, n2⟩ | ⟨b, c, fz, a1, a2, a3, a4, a5⟩
  · -- nothing in it
    subst n2
    have hk0 : k = 0 := by simpa using hk
    subst hk0
    have key : ∀ {base : Option Addr}, RVR κ' (setP φ' 1 (φ' 0)) (tabOf [.gone, .arr ty sz (([] : List DV).take 0)]) w'.heap (.own 1 sz) (.slice base 0 0) := .ownNil (by rw [hp1]; exact n1)
    have hval : ∃ base, v = .slice base 0 0 := by
      rcases hv with rfl | ⟨rfl, _⟩
      · cases g1 with
        | sub hφ => rw [n1] at hφ; cases hφ
        | sub0 => exact ⟨_, rfl⟩
      · cases g1 with
        | own hφ => rw [n1] at hφ; cases hφ
        | ownNil => exact ⟨_, rfl⟩
    obtain ⟨base, rfl⟩ := hval
    refine ⟨_, .own 1 sz, [.gone, .arr ty sz (([] : List DV).take 0)], κ', setP φ' 1 (φ' 0), rfl, ⟨rfl, rfl⟩, key, fun i => ?_, g3, by simp, g5, hkp⟩
    match i with
    | 0 => exact trivial
    | 1 => exact .inl ⟨by rw [hp1]; exact n1, rfl⟩
    | i + 2 => show setP φ' 1 (φ' 0) (i + 2) = .un; rw [hpo _ (by omega)]; exact hu _ (by omega)
  · by_cases hsub0 : v0 = .sub 0 sz 0 0 ∧ ∃ base, v = .slice base 0 0
    · -- a part with nothing in it
      obtain ⟨rfl, base, rfl⟩ := hsub0
      have hk0 : k = 0 := by
        rcases hv with hv | ⟨hv, _⟩
        · injection hv with _ _ _ e; exact e.symm
        · cases hv
      subst hk0
      refine ⟨_, .own 1 sz, [.gone, .arr ty sz (els.take 0)], κ', setP φ' 1 .nil, rfl, ⟨rfl, rfl⟩, .ownNil (setP_same _ _ _), fun i => ?_, g3, by simp, g5, ?_⟩
      · match i with
        | 0 => exact trivial
        | 1 => exact .inl ⟨setP_same _ _ _, by simp⟩
        | i + 2 => show setP φ' 1 .nil (i + 2) = .un; rw [setP_ne _ _ (by omega)]; exact hu _ (by omega)
      · have u1 : φ 1 = .un := by have := h1 1; exact this
        refine ⟨fun i hi => ?_, fun i n hi hn => ?_⟩
        · have : i ≠ 1 := fun e => by subst e; exact hi u1
          rw [setP_ne _ _ this]; exact g6.phi i hi
        · match i, hn with
          | 0, hn => simp [tabOf, PObj.len?] at hn
          | 1, _ => exact absurd u1 hi
          | i + 2, hn => simp [tabOf, PObj.len?] at hn
    · have hval : ∃ cap, v = .slice (some ⟨b, 0, none⟩) k cap ∧ cap * sz ≤ c.size ∧ k ≤ cap := by
        rcases hv with rfl | ⟨rfl, hke⟩
        · cases g1 with
          | sub hφ hb hcap hlc =>
            rw [a1] at hφ; injection hφ with hφ; subst hφ
            rw [a3] at hb; injection hb with hb; injection hb with e1 e2 e3; subst e1
            rw [Nat.zero_mul]
            exact ⟨_, rfl, by simpa using hcap, hlc⟩
          | sub0 => exact absurd ⟨rfl, _, rfl⟩ hsub0
        · cases g1 with
          | own hφ hb hcap hlc hlen =>
            rw [a1] at hφ; injection hφ with hφ; subst hφ
            rw [a3] at hb; injection hb with hb; injection hb with e1 e2 e3; subst e1
            have := hlen els.length rfl
            subst this
            subst hke
            exact ⟨_, rfl, hcap, hlc⟩
          | ownNil hφ => rw [a1] at hφ; cases hφ
      obtain ⟨cap, rfl, v1, v2⟩ := hval
      have hne : ∀ x, κ' x = .imm → x ≠ b := fun x hx e => by subst e; rw [a2] at hx; cases hx
      have him : ∀ x, κ' x = .imm → setK κ' b (.own 1) x = .imm := fun x hx => by unfold setK; rw [if_neg (hne x hx)]; exact hx
      refine ⟨_, .own 1 sz, [.gone, .arr ty sz (els.take k)], setK κ' b (.own 1), setP φ' 1 (φ' 0), rfl, ⟨rfl, rfl⟩, ?_, fun i => ?_, fun x hx => ?_, by simp, ?_, hkp⟩
      · exact .own (by rw [hp1]; exact a1) a3 v1 v2 (fun n hn => by simp only [tabOf, List.getElem?_cons_succ, List.getElem?_cons_zero, PObj.len?, Option.some.injEq] at hn; omega)
      · match i with
        | 0 => exact trivial
        | 1 =>
          refine .inr ⟨b, c, fz, by rw [hp1]; exact a1, by unfold setK; rw [if_pos rfl], a3, a4, ?_⟩
          obtain ⟨e1, e2, e3⟩ := a5
          refine ⟨fun x hx => e1 x (List.mem_of_mem_take hx), ?_, fun i x j y u hx hy hu => ?_⟩
          · have := Nat.mul_le_mul_right sz hk
            rw [hlt]; omega
          · rw [List.getElem?_take] at hx
            split at hx
            · exact (e3 i x j y u hx hy hu).mono fun z hz => ⟨him z hz, rfl⟩
            · cases hx
        | i + 2 => show setP φ' 1 (φ' 0) (i + 2) = .un; rw [hpo _ (by omega)]; exact hu _ (by omega)
      · by_cases e : x = b
        · subst e
          exact (Array.getElem?_eq_some_iff.1 a3).1
        · unfold setK at hx; rw [if_neg e] at hx; exact g3 x hx
      · refine ⟨g5.size, fun x hx => ?_, fun x hxl hx => ?_, g5.shp, g5.os, g5.out⟩
        · exact ⟨him x (g5.imm x hx).1, (g5.imm x hx).2⟩
        · have := g5.oth x hxl hx
          refine ⟨?_, this.2⟩
          unfold setK
          rw [if_neg (fun e => by subst e; rw [a2] at this; cases this.1)]
          exact this.1
end Go.Am

/-
  Sorting in place, and what is none taken out, run.
-/
namespace Go.Proofs.Ytljfolepmkcjlaa
open Go.RowKit Plain Am IntWalk
set_option maxRecDepth 100000
set_option linter.unusedVariables false
set_option linter.unusedSimpArgs false

noncomputable abbrev ixC : Code := bodyOf Try.f87
noncomputable abbrev deC : Code := bodyOf Try.f72
noncomputable abbrev m1C : Code := bodyOf Try.f73
def delv : RV := .clo (.func 73) [] []
def ix1 (l : List DV) (n i : Int) : ESt := { n := 19, m := 1, regs := T.mk [(0, .own 0 4), (1, delv), (7, .d (.int .i64 n)), (8, .d (.int .i64 i))], objs := T.mk [(0, .arr 46 4 l)] }
def de1 (l : List DV) (i j : Int) : ESt := { n := 42, m := 1, regs := T.mk [(0, .own 0 4), (1, delv), (5, .d (.int .i64 i)), (6, .d (.int .i64 j))], objs := T.mk [(0, .arr 46 4 l)] }
/-- is a change none? -/
def nilB (x : Chg) : Bool := decide (x.o = x.n)
def nilG : DV → Option (DV × List Bool) := fun x => some (.bool (nilB (toChg x)), [isC x])
def idxC (L : List Chg) : Int := match L.findIdx? nilB with
  | some i => (i : Int)
  | none => -1
def idxE : Ent := fun a o => match a, o with
  | [.own 0 4, .clo (.func f) [] []], [.arr T 4 els] => some (.d (.int .i64 (idxC (els.map toChg))), [.arr T 4 els], [Nat.beq T chT, Nat.beq f 73, els.all isC, decide (els.length ≤ 65536)])
  | _, _ => none
def stbE : Ent := fun a o => match a, o with
  | [.own 0 4, .d (.int .i64 n), .clo (.func f) [] []], [.arr T 4 els] => some (.tup [], [.arr T 4 ((Srt.isort cmpC (els.map toChg)).map chD)], [Nat.beq T chT, Nat.beq f 39, els.all isC, decide (n = els.length), decide (els.length ≤ 65536), distB (els.map toChg)])
  | _, _ => none
theorem nil_c (x : Chg) (hx : Chg.ok x) : C Try.prog 73 [.d (chD x)] [] (fun r o => r = .d (.bool (nilB x)) ∧ o = []) := by
  have ok := cfT_ok t3_ok
  refine C_of_run (fn := Try.f73) (body := m1C) true (by kernel_rfl) (by kernel_rfl) (by kernel_rfl) ?_
  exact WK.fin ok 1000 0 [] [decide ((List.map vD x.o).length ≤ 65536) && (List.map vD x.3).all isVal && true && true, decide ((List.map vD x.n).length ≤ 65536) && (List.map vD x.4).all isVal && true && true] [] rfl (by kernel_rfl : runEnd (cfT t3) true _ 1000 0 _ _ (ini 8 [.d (chD x)] []) = some (RV.d (DV.bool (decide (unR (rD x.o) = unR (rD x.n)))), [], _, _)) (by refine ⟨?_, ?_, trivial⟩ <;> (first | exact ok_o hx | exact ok_n hx)) trivial ⟨by rw [unR_rD, unR_rD]; rfl, rfl⟩
theorem nil_ent : EntOk Try.prog 73 (e1 nilG) := by
  refine e1_ok fun x y c hg hc => ?_
  simp only [nilG, Option.some.injEq, Prod.mk.injEq] at hg
  obtain ⟨rfl, rfl⟩ := hg
  obtain ⟨a, rfl, wa⟩ := isC_spec (hc (isC x) (by simp))
  rw [toChg_chD]
  exact nil_c a wa
theorem stb_ent : EntOk Try.prog 88 stbE := by
  intro a o r o' c hg hc
  unfold stbE at hg
  split at hg
  · rename_i n f T els
    simp only [Option.some.injEq, Prod.mk.injEq] at hg
    obtain ⟨rfl, rfl, rfl⟩ := hg
    have hT := nbE (hc (Nat.beq T chT) (by simp))
    have hF := nbE (hc (Nat.beq f 39) (by simp))
    have h1 := hc (els.all isC) (by simp)
    have h2 := of_decide_eq_true (hc (decide (n = els.length)) (by simp))
    have h6 := of_decide_eq_true (hc (decide (els.length ≤ 65536)) (by simp))
    have h7 := hc (distB (els.map toChg)) (by simp)
    subst hT hF h2
    obtain ⟨L, rfl, hLok⟩ := els_of h1 h6
    rw [unL_map] at h7 ⊢
    have := stable_c L hLok h7
    rw [List.length_map]
    exact this
  · cases hg
/-- the entry of sorting -/
def srtE : Ent := fun a o => match a, o with
  | [.own 0 4, .clo (.func f) [] []], [.arr T 4 els] => some (.tup [], [.arr T 4 ((Srt.isort cmpC (els.map toChg)).map chD)], [Nat.beq T chT, Nat.beq f 39, els.all isC, decide (els.length ≤ 65536), distB (els.map toChg)])
  | _, _ => none
theorem ts5s_ok : EntsOk Try.prog [(88, stbE)] := .cons stb_ent .nil
theorem srt_ent : EntOk Try.prog 74 srtE := by
  intro a o r o' c hg hc
  unfold srtE at hg
  split at hg
  · rename_i f T els
    simp only [Option.some.injEq, Prod.mk.injEq] at hg
    obtain ⟨rfl, rfl, rfl⟩ := hg
    have hT := nbE (hc (Nat.beq T chT) (by simp))
    have hF := nbE (hc (Nat.beq f 39) (by simp))
    have h1 := hc (els.all isC) (by simp)
    have h6 := hc (decide (els.length ≤ 65536)) (by simp)
    have h7 := hc (distB (els.map toChg)) (by simp)
    subst hT hF
    have ok := cfB_ok ts5s_ok
    refine C_of_run (fn := Try.f74) (body := bodyOf Try.f74) false (by kernel_rfl) (by kernel_rfl) (by kernel_rfl) ?_
    exact WK.fin ok 1000 0 [] [true, true, els.all isC, decide ((els.length : Int) = els.length), decide (els.length ≤ 65536), distB (els.map toChg)] [] rfl (by kernel_rfl : runEnd (cfB [(88, stbE)]) false _ 1000 0 _ _ (ini 9 [.own 0 4, cmpv] (arC els)) = some (.tup [], [.arr chT 4 ((Srt.isort cmpC (els.map toChg)).map chD)], _, _)) ⟨rfl, rfl, h1, decide_eq_true rfl, h6, h7, trivial⟩ trivial ⟨rfl, rfl⟩
  · cases hg
theorem ov_N {x : Chg} {b : Bool} (h : nilB x = b) : RVle (.d (.bool (nilB (toChg (chD x))))) (.d (.bool b)) := .of_eq (by rw [toChg_chD, h])
noncomputable def ts5a : List (Nat × Ent) := [(73, e1 nilG)]
noncomputable def ts5b : List (Nat × Ent) := [(73, e1 nilG), (87, idxE)]
theorem ts5a_ok : EntsOk Try.prog ts5a := .cons nil_ent .nil
set_option maxHeartbeats 2000000 in
theorem idx_c (L : List Chg) (hok : okL L) : C Try.prog 87 [.own 0 4, delv] (arC (L.map chD)) (fun r o => r = .d (.int .i64 (idxC L)) ∧ o = arC (L.map chD)) := by
  have ok := cfB_ok ts5a_ok
  refine C_of_run (fn := Try.f87) (body := ixC) false (by kernel_rfl) (by kernel_rfl) (by kernel_rfl) ?_
  obtain ⟨n, hn⟩ : ∃ n, L.length = n := ⟨_, rfl⟩
  have hn6 : n ≤ 65536 := by have := hok.1; omega
  have hloop : WK Try.prog 1 (stackAt ixC 0) (ix1 (L.map chD) (n : Int) 0).den (fun s => ∃ r objs' c, finish (Env.of Try.prog) false 1 (Try.f87.results.toList) s.R s.O = some (r, objs', c) ∧ (∀ b ∈ c, b = true) ∧ r = .d (.int .i64 (idxC L)) ∧ objs' = arC (L.map chD)) := by
    refine WK.rec' (P := Try.prog) (m := 1) (k := stackAt ixC 0) (fun (i : Nat) => ix1 (L.map chD) (n : Int) (i : Int)) (fun i => i ≤ n ∧ ∀ j x, j < i → L[j]? = some x → nilB x = false) (fun i => n - i) ?_ 0 ⟨Nat.zero_le _, by intro j x h; omega⟩
    rintro i ⟨hi, hpre⟩ ih
    by_cases hlt : i < n
    · obtain ⟨x, hx⟩ : ∃ x, L[i]'(by omega) = x := ⟨_, rfl⟩
      have gx : L[i]? = some x := by rw [List.getElem?_eq_getElem (by omega), hx]
      have hxo : Chg.ok x := hok.2 x (List.mem_of_getElem? gx)
      have bx1 := bd_in gx
      have bx2 := bd_in2 gx
      have bx3 := bd_ble gx
      have bx4 := ov_load gx
      rcases Bool.eq_false_or_eq_true (nilB x) with hb | hb
      · have e : idxC L = i := by
          unfold idxC
          have : L.findIdx? nilB = some i := by
            rw [List.findIdx?_eq_some_iff_getElem]
            refine ⟨by omega, by rw [hx]; exact hb, fun j hj => ?_⟩
            have := hpre j (L[j]'(by omega)) hj (List.getElem?_eq_getElem (by omega))
            simpa using this
          rw [this]
        rw [e]
        obtain ⟨l, hl⟩ : ∃ l, L.map chD = l := ⟨_, rfl⟩
        rw [hl] at bx1 bx2 bx3 bx4 ⊢
        exact WK.fin ok 1000 0 [(9, RV.d (DV.bool true)), (15, RV.d (DV.agg [DV.str x.1, DV.lst 3 (List.map vD x.2) false, DV.lst 3 (List.map vD x.3) false, DV.lst 3 (List.map vD x.4) false])), (18, RV.d (DV.int Go.IntKind.i64 (Nat.cast (R := Int) (i + 1)))), (16, RV.d (DV.bool true))] [decide (0 ≤ (Nat.cast (R := Int) i) ∧ (Nat.cast (R := Int) i) < (Nat.cast (R := Int) l.length)), decide ((Nat.cast (R := Int) i).toNat < l.length), Nat.ble 4 (l.getD (Nat.cast (R := Int) i).toNat DV.nilp).cells.length, isC (DV.agg [DV.str x.1, DV.lst 3 (List.map vD x.2) false, DV.lst 3 (List.map vD x.3) false, DV.lst 3 (List.map vD x.4) false])] [(RV.d (DV.bool (decide ((Nat.cast (R := Int) i) < (Nat.cast (R := Int) n)))), RV.d (DV.bool true)), (RV.d (DV.agg (List.take 4 (List.drop 0 (l.getD (Nat.cast (R := Int) i).toNat DV.nilp).cells))), RV.d (DV.agg [DV.str x.1, DV.lst 3 (List.map vD x.2) false, DV.lst 3 (List.map vD x.3) false, DV.lst 3 (List.map vD x.4) false])), (RV.d (DV.bool (nilB { t := x.1, k := List.map toVal (List.map vD x.k), o := List.map toVal (List.map vD x.o), n := List.map toVal (List.map vD x.n) })), RV.d (DV.bool true))] rfl (by kernel_rfl : runEnd (cfB ts5a) false _ 1000 0 _ _ (ix1 l (n : Int) (i : Int)) = some (RV.d (DV.int Go.IntKind.i64 (Nat.cast (R := Int) i)), [PObj.arr 46 4 l], _, _)) (by refine ⟨?_, ?_, ?_, ?_, trivial⟩ <;> (first | exact bx1 | exact bx2 | exact bx3 | exact isC_chD hxo)) (by refine ⟨?_, ?_, ?_, trivial⟩ <;> (first | exact le_bool (decide_eq_true (by omega)) | exact bx4 | exact ov_N hb)) ⟨rfl, rfl⟩
      · have hw := ih (i + 1) ⟨hlt, fun j y hj hy => by
          by_cases e : j = i
          · subst e; rw [gx] at hy; injection hy with hy; subst hy; exact hb
          · exact hpre j y (by omega) hy⟩ (by omega)
        obtain ⟨l, hl⟩ : ∃ l, L.map chD = l := ⟨_, rfl⟩
        rw [hl] at bx1 bx2 bx3 bx4 hw ⊢
        refine WK.segA ok 1000 0 [(9, RV.d (DV.bool true)), (15, RV.d (DV.agg [DV.str x.1, DV.lst 3 (List.map vD x.2) false, DV.lst 3 (List.map vD x.3) false, DV.lst 3 (List.map vD x.4) false])), (18, RV.d (DV.int Go.IntKind.i64 (Nat.cast (R := Int) (i + 1)))), (16, RV.d (DV.bool false))] [] [0, 1, 7, 8] [decide (0 ≤ (Nat.cast (R := Int) i) ∧ (Nat.cast (R := Int) i) < (Nat.cast (R := Int) l.length)), decide ((Nat.cast (R := Int) i).toNat < l.length), Nat.ble 4 (l.getD (Nat.cast (R := Int) i).toNat DV.nilp).cells.length, isC (DV.agg [DV.str x.1, DV.lst 3 (List.map vD x.2) false, DV.lst 3 (List.map vD x.3) false, DV.lst 3 (List.map vD x.4) false])] [(RV.d (DV.bool (decide ((Nat.cast (R := Int) i) < (Nat.cast (R := Int) n)))), RV.d (DV.bool true)), (RV.d (DV.agg (List.take 4 (List.drop 0 (l.getD (Nat.cast (R := Int) i).toNat DV.nilp).cells))), RV.d (DV.agg [DV.str x.1, DV.lst 3 (List.map vD x.2) false, DV.lst 3 (List.map vD x.3) false, DV.lst 3 (List.map vD x.4) false])), (RV.d (DV.bool (nilB { t := x.1, k := List.map toVal (List.map vD x.k), o := List.map toVal (List.map vD x.o), n := List.map toVal (List.map vD x.n) })), RV.d (DV.bool false)), (RV.d (DV.int Go.IntKind.i64 (Go.IntKind.i64.wrap ((Nat.cast (R := Int) i) + 1))), RV.d (DV.int Go.IntKind.i64 (Nat.cast (R := Int) (i + 1))))] rfl (by kernel_rfl : runSegA (cfB ts5a) 1000 0 _ _ _ _ (ix1 l (n : Int) (i : Int)) = some (stackAt ixC 0, ix1 l (n : Int) ((i + 1 : Nat) : Int), _, _)) (by refine ⟨?_, ?_, ?_, ?_, trivial⟩ <;> (first | exact bx1 | exact bx2 | exact bx3 | exact isC_chD hxo)) (by refine ⟨?_, ?_, ?_, ?_, trivial⟩ <;> (first | exact le_bool (decide_eq_true (by omega)) | exact bx4 | exact ov_N hb | exact ov_succ (by omega))) ?_
        exact hw
    · have e : idxC L = -1 := by
        unfold idxC
        have : L.findIdx? nilB = none := by
          rw [List.findIdx?_eq_none_iff]
          intro y hy
          obtain ⟨j, hj⟩ := List.getElem?_of_mem hy
          exact hpre j y (by have := (List.getElem?_eq_some_iff.1 hj).1; omega) hj
        rw [this]
      rw [e]
      obtain ⟨l, hl⟩ : ∃ l, L.map chD = l := ⟨_, rfl⟩
      rw [hl]
      exact WK.fin ok 1000 0 [(9, RV.d (DV.bool false))] [] [(RV.d (DV.bool (decide ((Nat.cast (R := Int) i) < (Nat.cast (R := Int) n)))), RV.d (DV.bool false))] rfl (by kernel_rfl : runEnd (cfB ts5a) false _ 1000 0 _ _ (ix1 l (n : Int) (i : Int)) = some (RV.d (DV.int Go.IntKind.i64 (-1)), [PObj.arr 46 4 l], _, _)) trivial ⟨(by exact le_bool (decide_eq_false (by omega))), trivial⟩ ⟨rfl, rfl⟩
  have hll : (L.map chD).length = n := by rw [List.length_map, hn]
  obtain ⟨l, hl⟩ : ∃ l, L.map chD = l := ⟨_, rfl⟩
  rw [hl] at hloop hll ⊢
  refine WK.segA ok 1000 0 [] [] [0, 1, 7, 8] [] [] rfl (by kernel_rfl : runSegA (cfB ts5a) 1000 0 _ _ _ _ (ini 19 [.own 0 4, delv] (arC l)) = some (stackAt ixC 0, ix1 l (l.length : Int) 0, _, _)) trivial trivial ?_
  rw [hll]; exact hloop
theorem idx_ent : EntOk Try.prog 87 idxE := by
  intro a o r o' c hg hc
  unfold idxE at hg
  split at hg
  · rename_i f T els
    simp only [Option.some.injEq, Prod.mk.injEq] at hg
    obtain ⟨rfl, rfl, rfl⟩ := hg
    have hT := nbE (hc (Nat.beq T chT) (by simp))
    have hF := nbE (hc (Nat.beq f 73) (by simp))
    have h1 := hc (els.all isC) (by simp)
    have h6 := of_decide_eq_true (hc (decide (els.length ≤ 65536)) (by simp))
    subst hT hF
    obtain ⟨L, rfl, hLok⟩ := els_of h1 h6
    rw [unL_map]
    exact idx_c L hLok
  · cases hg
theorem ts5b_ok : EntsOk Try.prog ts5b := .cons nil_ent (.cons idx_ent .nil)
def zD : DV := .agg [.str [], .lst 0 [] true, .lst 0 [] true, .lst 0 [] true]
def clr (l : List DV) (i n : Nat) : List DV := l.take i ++ List.replicate (n - i) zD ++ l.drop (i + (n - i))
theorem live_nil {L : List Chg} (h : ∀ x ∈ L, nilB x = false) : live L = L := by
  unfold live; rw [List.filter_eq_self]
  intro x hx; have := h x hx; unfold nilB at this; rw [this]; rfl
theorem live_snoc (L : List Chg) (x : Chg) : live (L ++ [x]) = live L ++ (if nilB x = true then [] else [x]) := by
  unfold live; rw [List.filter_append]; congr 1
  unfold nilB
  by_cases h : x.o = x.n
  · simp [h]
  · simp [h]
abbrev EndsD (n : Nat) (l : List DV) (k : Nat) : SSt → Prop := fun s => ∃ r objs' c, finish (Env.of Try.prog) false 1 (Try.f72.results.toList) s.R s.O = some (r, objs', c) ∧ (∀ b ∈ c, b = true) ∧ r = .sub 0 4 0 k ∧ objs' = arC l
set_option maxHeartbeats 2000000 in
theorem de_loop (L : List Chg) (hok : okL L) (n : Nat) (hn : L.length = n) (j : Nat) (G : List Chg) (hj : j ≤ n) (hG : (live (L.take j)).length + G.length = j) :
    WK Try.prog 1 (stackAt deC 0) (de1 ((live (L.take j) ++ (G ++ L.drop j)).map chD) ((live (L.take j)).length : Int) (j : Int)).den (EndsD n ((live L).map chD ++ List.replicate (n - (live L).length) zD) (live L).length) := by
  have ok := cfB_ok ts5b_ok
  have hn6 : n ≤ 65536 := by have := hok.1; omega
  refine WK.rec' (P := Try.prog) (m := 1) (k := stackAt deC 0) (fun (q : Nat × List Chg) => de1 ((live (L.take q.1) ++ (q.2 ++ L.drop q.1)).map chD) ((live (L.take q.1)).length : Int) (q.1 : Int)) (fun q => q.1 ≤ n ∧ (live (L.take q.1)).length + q.2.length = q.1) (fun q => n - q.1) ?_ (j, G) ⟨hj, hG⟩
  clear hj hG j G
  rintro ⟨j, G⟩ ⟨hj, hG⟩ ih
  simp only at hj hG ih ⊢
  obtain ⟨i, hi⟩ : ∃ i, (live (L.take j)).length = i := ⟨_, rfl⟩
  have hll : ((live (L.take j) ++ (G ++ L.drop j)).map chD).length = n := by simp only [List.length_map, List.length_append, List.length_drop]; omega
  by_cases hlt : j < n
  · obtain ⟨x, hx⟩ : ∃ x, L[j]'(by omega) = x := ⟨_, rfl⟩
    have gx0 : L[j]? = some x := by rw [List.getElem?_eq_getElem (by omega), hx]
    have ex : L.drop j = x :: L.drop (j + 1) := by rw [List.drop_eq_getElem_cons (by omega), hx]
    have tx : L.take (j + 1) = L.take j ++ [x] := by rw [List.take_add_one, List.getElem?_eq_getElem (by omega), hx]; rfl
    have hxo : Chg.ok x := hok.2 x (List.mem_of_getElem? gx0)
    have gx : (live (L.take j) ++ (G ++ L.drop j))[j]? = some x := by
      rw [ex, ← List.append_assoc]; exact get_mid _ _ _ _ (by simp; omega)
    have bx1 := bd_in gx
    have bx2 := bd_in2 gx
    have bx3 := bd_ble gx
    have bx4 := ov_load gx
    have hA : (!nilB x) = true → ∃ G2 : List Chg, (live (L.take j) ++ (G ++ L.drop j)).set i x = live (L.take (j + 1)) ++ (G2 ++ L.drop (j + 1)) ∧ (live (L.take (j + 1))).length = i + 1 ∧ (live (L.take (j + 1))).length + G2.length = j + 1 := fun hb => by
      have hb' : nilB x = false := by simpa using hb
      have el : live (L.take (j + 1)) = live (L.take j) ++ [x] := by rw [tx, live_snoc, if_neg (by simp [hb'])]
      cases G with
      | nil =>
        refine ⟨[], ?_, by rw [el]; simp; omega, by rw [el]; simp at hG ⊢; omega⟩
        rw [ex, el, List.nil_append, set_mid _ _ _ _ _ hi.symm]
        simp
      | cons g G' =>
        refine ⟨G' ++ [x], ?_, by rw [el]; simp; omega, by rw [el]; simp at hG ⊢; omega⟩
        rw [ex, el, List.cons_append, set_mid _ _ _ _ _ hi.symm]
        simp
    have hB : (!nilB x) = false → live (L.take j) ++ (G ++ L.drop j) = live (L.take (j + 1)) ++ ((G ++ [x]) ++ L.drop (j + 1)) ∧ (live (L.take (j + 1))).length = i ∧ (live (L.take (j + 1))).length + (G ++ [x]).length = j + 1 := fun hb => by
      have hb' : nilB x = true := by simpa using hb
      have el : live (L.take (j + 1)) = live (L.take j) := by rw [tx, live_snoc, if_pos hb', List.append_nil]
      refine ⟨by rw [ex, el]; simp, by rw [el]; exact hi, by rw [el]; simp; omega⟩
    have hA2 : (!nilB x) = true → WK Try.prog 1 (stackAt deC 0) (de1 (((live (L.take j) ++ (G ++ L.drop j)).map chD).set i (chD x)) ((i + 1 : Nat) : Int) ((j + 1 : Nat) : Int)).den (EndsD n ((live L).map chD ++ List.replicate (n - (live L).length) zD) (live L).length) := fun hb => by
      obtain ⟨G2, h1, h2, h3⟩ := hA hb
      have := ih (j + 1, G2) ⟨hlt, h3⟩ (by simp only; omega)
      simp only [h2] at this
      rw [map_set', h1]
      exact this
    have hB2 : (!nilB x) = false → WK Try.prog 1 (stackAt deC 0) (de1 ((live (L.take j) ++ (G ++ L.drop j)).map chD) (i : Int) ((j + 1 : Nat) : Int)).den (EndsD n ((live L).map chD ++ List.replicate (n - (live L).length) zD) (live L).length) := fun hb => by
      obtain ⟨h1, h2, h3⟩ := hB hb
      have := ih (j + 1, G ++ [x]) ⟨hlt, h3⟩ (by simp only; omega)
      simp only [h2] at this
      rw [h1]
      exact this
    have hnb : ∀ {b : Bool}, (!nilB x) = b → RVle (.d (.bool (nilB (toChg (chD x))))) (.d (.bool (nilB x))) := fun _ => .of_eq (by rw [toChg_chD])
    obtain ⟨k, hk⟩ : ∃ k, (live L).length = k := ⟨_, rfl⟩
    obtain ⟨T, hT⟩ : ∃ T, (live L).map chD ++ List.replicate (n - (live L).length) zD = T := ⟨_, rfl⟩
    obtain ⟨l, hl⟩ : ∃ l, (live (L.take j) ++ (G ++ L.drop j)).map chD = l := ⟨_, rfl⟩
    rw [hl] at bx1 bx2 bx3 bx4 hll
    rw [hl, hT, hk] at hA2 hB2
    rw [hl, hT, hi, hk]
    clear ih hA hB
    rcases Bool.eq_false_or_eq_true (!nilB x : Bool) with h29 | h29
    · skip
      refine WK.segA ok 1000 0 [(19, RV.d (DV.bool true)), (25, RV.d (DV.agg [DV.str x.1, DV.lst 3 (List.map vD x.2) false, DV.lst 3 (List.map vD x.3) false, DV.lst 3 (List.map vD x.4) false])), (28, RV.d (DV.bool (nilB x))), (21, RV.d (DV.int Go.IntKind.i64 (Nat.cast (R := Int) (j + 1)))), (35, RV.d (DV.int Go.IntKind.i64 (Nat.cast (R := Int) (i + 1)))), (29, RV.d (DV.bool true))] [] [0, 1, 5, 6] [decide (0 ≤ (Nat.cast (R := Int) j) ∧ (Nat.cast (R := Int) j) < (Nat.cast (R := Int) l.length)), decide ((Nat.cast (R := Int) j).toNat < l.length), Nat.ble 4 (l.getD (Nat.cast (R := Int) j).toNat DV.nilp).cells.length, isC (DV.agg [DV.str x.1, DV.lst 3 (List.map vD x.2) false, DV.lst 3 (List.map vD x.3) false, DV.lst 3 (List.map vD x.4) false]), decide (0 ≤ (Nat.cast (R := Int) i) ∧ (Nat.cast (R := Int) i) < (Nat.cast (R := Int) l.length)), decide ((Nat.cast (R := Int) i).toNat < l.length)] [(RV.d (DV.bool (decide ((Nat.cast (R := Int) j) < (Nat.cast (R := Int) l.length)))), RV.d (DV.bool true)), (RV.d (DV.agg (List.take 4 (List.drop 0 (l.getD (Nat.cast (R := Int) j).toNat DV.nilp).cells))), RV.d (DV.agg [DV.str x.1, DV.lst 3 (List.map vD x.2) false, DV.lst 3 (List.map vD x.3) false, DV.lst 3 (List.map vD x.4) false])), (RV.d (DV.bool (nilB { t := x.1, k := List.map toVal (List.map vD x.k), o := List.map toVal (List.map vD x.o), n := List.map toVal (List.map vD x.n) })), RV.d (DV.bool (nilB x))), (RV.d (DV.bool !nilB x), RV.d (DV.bool true)), (RV.d (DV.int Go.IntKind.i64 (Go.IntKind.i64.wrap ((Nat.cast (R := Int) i) + 1))), RV.d (DV.int Go.IntKind.i64 (Nat.cast (R := Int) (i + 1)))), (RV.d (DV.int Go.IntKind.i64 (Go.IntKind.i64.wrap ((Nat.cast (R := Int) j) + 1))), RV.d (DV.int Go.IntKind.i64 (Nat.cast (R := Int) (j + 1))))] rfl (by kernel_rfl : runSegA (cfB ts5b) 1000 0 _ _ _ _ (de1 l (i : Int) (j : Int)) = some (stackAt deC 0, de1 (l.set (Nat.cast (R := Int) i).toNat (DV.agg [DV.str x.1, DV.lst 3 (List.map vD x.2) false, DV.lst 3 (List.map vD x.3) false, DV.lst 3 (List.map vD x.4) false])) (Nat.cast (R := Int) (i + 1)) ((j + 1 : Nat) : Int), _, _)) (by refine ⟨?_, ?_, ?_, ?_, ?_, ?_, trivial⟩ <;> (first | exact bx1 | exact bx2 | exact bx3 | exact isC_chD hxo | exact decide_eq_true (by omega))) (by refine ⟨?_, ?_, ?_, le_bool h29, ?_, ?_, trivial⟩ <;> (first | exact le_bool (decide_eq_true (by omega)) | exact bx4 | exact hnb h29 | exact ov_succ (by omega))) ?_
      first | exact hA2 h29 | exact hB2 h29
    · skip
      refine WK.segA ok 1000 0 [(19, RV.d (DV.bool true)), (25, RV.d (DV.agg [DV.str x.1, DV.lst 3 (List.map vD x.2) false, DV.lst 3 (List.map vD x.3) false, DV.lst 3 (List.map vD x.4) false])), (28, RV.d (DV.bool (nilB x))), (21, RV.d (DV.int Go.IntKind.i64 (Nat.cast (R := Int) (j + 1)))), (35, RV.d (DV.int Go.IntKind.i64 (Nat.cast (R := Int) (i + 1)))), (29, RV.d (DV.bool false))] [] [0, 1, 5, 6] [decide (0 ≤ (Nat.cast (R := Int) j) ∧ (Nat.cast (R := Int) j) < (Nat.cast (R := Int) l.length)), decide ((Nat.cast (R := Int) j).toNat < l.length), Nat.ble 4 (l.getD (Nat.cast (R := Int) j).toNat DV.nilp).cells.length, isC (DV.agg [DV.str x.1, DV.lst 3 (List.map vD x.2) false, DV.lst 3 (List.map vD x.3) false, DV.lst 3 (List.map vD x.4) false])] [(RV.d (DV.bool (decide ((Nat.cast (R := Int) j) < (Nat.cast (R := Int) l.length)))), RV.d (DV.bool true)), (RV.d (DV.agg (List.take 4 (List.drop 0 (l.getD (Nat.cast (R := Int) j).toNat DV.nilp).cells))), RV.d (DV.agg [DV.str x.1, DV.lst 3 (List.map vD x.2) false, DV.lst 3 (List.map vD x.3) false, DV.lst 3 (List.map vD x.4) false])), (RV.d (DV.bool (nilB { t := x.1, k := List.map toVal (List.map vD x.k), o := List.map toVal (List.map vD x.o), n := List.map toVal (List.map vD x.n) })), RV.d (DV.bool (nilB x))), (RV.d (DV.bool !nilB x), RV.d (DV.bool false)), (RV.d (DV.int Go.IntKind.i64 (Go.IntKind.i64.wrap ((Nat.cast (R := Int) j) + 1))), RV.d (DV.int Go.IntKind.i64 (Nat.cast (R := Int) (j + 1))))] rfl (by kernel_rfl : runSegA (cfB ts5b) 1000 0 _ _ _ _ (de1 l (i : Int) (j : Int)) = some (stackAt deC 0, de1 l (Nat.cast (R := Int) i) ((j + 1 : Nat) : Int), _, _)) (by refine ⟨?_, ?_, ?_, ?_, trivial⟩ <;> (first | exact bx1 | exact bx2 | exact bx3 | exact isC_chD hxo | exact decide_eq_true (by omega))) (by refine ⟨?_, ?_, ?_, le_bool h29, ?_, trivial⟩ <;> (first | exact le_bool (decide_eq_true (by omega)) | exact bx4 | exact hnb h29 | exact ov_succ (by omega))) ?_
      first | exact hA2 h29 | exact hB2 h29
  · have e : j = n := by omega
    subst e
    have e1 : L.take j = L := List.take_of_length_le (by omega)
    have e2 : L.drop j = [] := List.drop_eq_nil_of_le (by omega)
    rw [e1, e2, List.append_nil] at hll ⊢
    rw [e1] at hG hi
    obtain ⟨l, hl⟩ : ∃ l, (live L ++ G).map chD = l := ⟨_, rfl⟩
    have hclr : clr l i j = (live L).map chD ++ List.replicate (j - (live L).length) zD := by
      unfold clr
      rw [hi, ← hl, List.map_append, List.take_left' (by rw [List.length_map]; exact hi)]
      rw [List.drop_eq_nil_of_le (by simp only [List.length_append, List.length_map]; omega), List.append_nil]
    have hcl : (clr l i j).length = j := by rw [hclr]; simp only [List.length_append, List.length_map, List.length_replicate]; omega
    rw [hl] at hll ⊢
    rw [← hclr, hi]
    have hf : decide ((Nat.cast (R := Int) j) < ((l.length : Nat) : Int)) = false := decide_eq_false (by omega)
    have hrun : runEnd (cfB ts5b) false (Try.f72.results.toList) 1000 0 [(19, .d (.bool false))] (stackAt deC 0) (de1 l (i : Int) (j : Int)) = some (.sub 0 4 0 i, [.arr chT 4 (clr l i l.length)], [decide ((0 : Int) ≤ (i : Int) ∧ (i : Int) ≤ ((l.length : Nat) : Int)), decide (i + (l.length - i) ≤ l.length), decide ((0 : Int) ≤ (i : Int) ∧ (i : Int) ≤ (((clr l i l.length).length : Nat) : Int))], [(.d (.bool (decide ((Nat.cast (R := Int) j) < ((l.length : Nat) : Int)))), .d (.bool false))]) := by kernel_rfl
    refine WK.fin ok 1000 0 _ _ _ rfl hrun ⟨decide_eq_true (by omega), decide_eq_true (by omega), decide_eq_true (by rw [hll, hcl]; omega), trivial⟩ ⟨le_bool hf, trivial⟩ ⟨rfl, by rw [hll]; rfl⟩
set_option maxHeartbeats 2000000 in
theorem del_c (L : List Chg) (hok : okL L) : C Try.prog 72 [.own 0 4, delv] (arC (L.map chD)) (fun r o => r = .own 1 4 ∧ o = [.gone, .arr chT 4 ((live L).map chD)]) := by
  have ok := cfB_ok ts5b_ok
  obtain ⟨n, hn⟩ : ∃ n, L.length = n := ⟨_, rfl⟩
  have hn6 : n ≤ 65536 := by have := hok.1; omega
  have h1 := all_isC hok.2
  have h2 : decide ((L.map chD).length ≤ 65536) = true := decide_eq_true (by rw [List.length_map]; omega)
  cases hf : L.findIdx? nilB with
  | none =>
    have hlive : live L = L := live_nil (fun x hx => by rw [List.findIdx?_eq_none_iff] at hf; simpa using hf x hx)
    have hi : idxC L = -1 := by unfold idxC; rw [hf]
    have key := C.own1 (P := Try.prog) (f := 72) (args := [.own 0 4, delv]) (ty := chT) (sz := 4) (els := L.map chD) (els1 := L.map chD) (v0 := .own 0 4) ?_ (L.map chD).length (Nat.le_refl _) (.inr ⟨rfl, rfl⟩)
    · rw [hlive]; rw [List.take_length] at key; exact key
    refine C_of_run (fn := Try.f72) (body := deC) false (by kernel_rfl) (by kernel_rfl) (by kernel_rfl) ?_
    have hi2 : idxC ((L.map chD).map toChg) = -1 := by rw [unL_map]; exact hi
    obtain ⟨l, hl⟩ : ∃ l, L.map chD = l := ⟨_, rfl⟩
    show WK Try.prog 1 _ (ini 42 [.own 0 4, delv] [.arr chT 4 (L.map chD)]).den _
    rw [hl] at h1 h2 hi2 ⊢
    have hrun : runEnd (cfB ts5b) false (Try.f72.results.toList) 1000 0 [(12, .d (.bool true))] [.code deC] (ini 42 [.own 0 4, delv] [.arr chT 4 l]) = some (.own 0 4, [.arr chT 4 l], [true, true, l.all isC, decide (l.length ≤ 65536)], [(.d (.bool (idxC (l.map toChg) == -1)), .d (.bool true))]) := by kernel_rfl
    exact WK.fin ok 1000 0 _ _ _ rfl hrun ⟨rfl, rfl, h1, h2, trivial⟩ ⟨le_bool (by rw [hi2]; rfl), trivial⟩ ⟨rfl, rfl⟩
  | some i =>
    rw [List.findIdx?_eq_some_iff_getElem] at hf
    obtain ⟨hil, hb, hpre⟩ := hf
    have hi : idxC L = i := by
      unfold idxC
      rw [(List.findIdx?_eq_some_iff_getElem).2 ⟨hil, hb, hpre⟩]
    have hi2 : idxC ((L.map chD).map toChg) = i := by rw [unL_map]; exact hi
    have lv : live (L.take (i + 1)) = L.take i := by
      have tx : L.take (i + 1) = L.take i ++ [L[i]] := by rw [List.take_add_one, List.getElem?_eq_getElem hil]; rfl
      rw [tx, live_snoc, if_pos hb, List.append_nil]
      refine live_nil fun x hx => ?_
      obtain ⟨j, hj⟩ := List.getElem?_of_mem hx
      rw [List.getElem?_take] at hj
      split at hj
      · rename_i hji
        rw [List.getElem?_eq_getElem (by omega)] at hj
        injection hj with hj
        have := hpre j hji
        rw [← hj]; simpa using this
      · cases hj
    have li : (L.take i).length = i := by rw [List.length_take]; omega
    have hkl : (live L).length ≤ L.length := List.length_filter_le _ _
    have key := C.own1 (P := Try.prog) (f := 72) (args := [.own 0 4, delv]) (ty := chT) (sz := 4) (els := (live L).map chD ++ List.replicate (n - (live L).length) zD) (els1 := L.map chD) (v0 := .sub 0 4 0 (live L).length) ?_ (live L).length (by simp) (.inl rfl)
    · rw [List.take_left' (by rw [List.length_map])] at key; exact key
    refine C_of_run (fn := Try.f72) (body := deC) false (by kernel_rfl) (by kernel_rfl) (by kernel_rfl) ?_
    have hl0 := de_loop L hok n hn (i + 1) [L[i]] (by omega) (by rw [lv, li]; rfl)
    rw [lv, li] at hl0
    have e0 : L.take i ++ ([L[i]] ++ L.drop (i + 1)) = L := by
      have tx : L.take (i + 1) = L.take i ++ [L[i]] := by rw [List.take_add_one, List.getElem?_eq_getElem hil]; rfl
      rw [← List.append_assoc, ← tx, List.take_append_drop]
    rw [e0] at hl0
    obtain ⟨l, hl⟩ : ∃ l, L.map chD = l := ⟨_, rfl⟩
    obtain ⟨k, hk⟩ : ∃ k, (live L).length = k := ⟨_, rfl⟩
    obtain ⟨T, hT⟩ : ∃ T, (live L).map chD ++ List.replicate (n - (live L).length) zD = T := ⟨_, rfl⟩
    show WK Try.prog 1 _ (ini 42 [.own 0 4, delv] [.arr chT 4 (L.map chD)]).den _
    rw [hl] at h1 h2 hi2
    rw [hl, hT, hk] at hl0
    rw [hl, hT, hk]
    refine WK.segA ok 1000 0 [(12, RV.d (DV.bool false)), (5, RV.d (DV.int Go.IntKind.i64 (Nat.cast (R := Int) i))), (15, RV.d (DV.int Go.IntKind.i64 (Nat.cast (R := Int) (i + 1))))] [] [0, 1, 5, 6] [true, true, l.all isC, decide (l.length ≤ 65536)] [(RV.d (DV.int Go.IntKind.i64 (idxC (List.map toChg l))), RV.d (DV.int Go.IntKind.i64 (Nat.cast (R := Int) i))), (RV.d (DV.bool false), RV.d (DV.bool false)), (RV.d (DV.int Go.IntKind.i64 (Go.IntKind.i64.wrap ((Nat.cast (R := Int) i) + 1))), RV.d (DV.int Go.IntKind.i64 (Nat.cast (R := Int) (i + 1))))] rfl (by kernel_rfl : runSegA (cfB ts5b) 1000 0 _ _ _ _ (ini 42 [.own 0 4, delv] [.arr chT 4 l]) = some (stackAt deC 0, de1 l (i : Int) ((i + 1 : Nat) : Int), _, _)) (by refine ⟨?_, ?_, ?_, ?_, trivial⟩ <;> (first | rfl | exact h1 | exact h2)) (by refine ⟨?_, ?_, ?_, trivial⟩ <;> (first | exact le_bool rfl | exact .of_eq (by rw [hi2]) | exact ov_succ (by omega))) ?_
    exact hl0
/-- the entry: what is none is taken out -/
def delE : Ent := fun a o => match a, o with
  | [.own 0 4, .clo (.func f) [] []], [.arr T 4 els] => some (.own 1 4, [.gone, .arr T 4 ((live (els.map toChg)).map chD)], [Nat.beq T chT, Nat.beq f 73, els.all isC, decide (els.length ≤ 65536)])
  | _, _ => none
theorem del_ent : EntOk Try.prog 72 delE := by
  intro a o r o' c hg hc
  unfold delE at hg
  split at hg
  · rename_i f T els
    simp only [Option.some.injEq, Prod.mk.injEq] at hg
    obtain ⟨rfl, rfl, rfl⟩ := hg
    have hT := nbE (hc (Nat.beq T chT) (by simp))
    have hF := nbE (hc (Nat.beq f 73) (by simp))
    have h1 := hc (els.all isC) (by simp)
    have h6 := of_decide_eq_true (hc (decide (els.length ≤ 65536)) (by simp))
    subst hT hF
    obtain ⟨L, rfl, hLok⟩ := els_of h1 h6
    rw [unL_map]
    exact del_c L hLok
  · cases hg
end Go.Proofs.Ytljfolepmkcjlaa

/-
  A change's name, run; and that no two changes of different tables or keys have one name.
-/
namespace Go.Proofs.Ytljfolepmkcjlaa
open Go.RowKit Plain Am IntWalk
set_option maxRecDepth 100000
set_option linter.unusedVariables false
set_option linter.unusedSimpArgs false

noncomputable abbrev wsC : Code := bodyOf Try.f53
noncomputable abbrev wbC : Code := bodyOf Try.f86
noncomputable abbrev foC : Code := bodyOf Try.f99
noncomputable abbrev eiC : Code := bodyOf Try.f85
noncomputable abbrev naC : Code := bodyOf Try.f71
abbrev blT : Nat := 72
abbrev u8T : Nat := 5
def wsE : Ent := fun a o => match a, o with
  | [.ptr 0 0, .d (.str x)], [.box T [.ptr 0 0, .own 1 1], .arr E 1 els] => some (.tup [.d (.int .i64 x.length), .d .nili], [.box T [.ptr 0 0, .own 2 1], .gone, .arr E 1 (els ++ u8s x)], [Nat.beq T blT, Nat.beq E u8T, decide (els.length + x.length ≤ 1000000000)])
  | [.ptr 0 0, .d (.str x)], [.box T [.d .nilp, .d (.lst 0 [] true)]] => some (.tup [.d (.int .i64 x.length), .d .nili], [.box T [.ptr 0 0, .own 1 1], .arr u8T 1 (u8s x)], [Nat.beq T blT, decide (x.length ≤ 1000000000)])
  | _, _ => none
def wbE : Ent := fun a o => match a, o with
  | [.ptr 0 0, .d (.int .u8 c)], [.box T [.ptr 0 0, .own 1 1], .arr E 1 els] => some (.d .nili, [.box T [.ptr 0 0, .own 2 1], .gone, .arr E 1 (els ++ [.int .u8 c])], [Nat.beq T blT, Nat.beq E u8T, decide (els.length ≤ 1000000000)])
  | _, _ => none
def fourB (v : Int) : Bs := [UInt8.ofNat (IntKind.u8.wrap (v.fdiv 16777216)).toNat, UInt8.ofNat (IntKind.u8.wrap (v.fdiv 65536)).toNat, UInt8.ofNat (IntKind.u8.wrap (v.fdiv 256)).toNat, UInt8.ofNat (IntKind.u8.wrap v).toNat]
def eightB (v : Int) : Bs := fourB (IntKind.u32.wrap (v.fdiv 4294967296)) ++ fourB (IntKind.u32.wrap v)
def fourG : DV → Option (DV × List Bool)
  | .int .u32 v => some (.str (fourB v), [])
  | _ => none
def eightG : DV → Option (DV × List Bool)
  | .int .u64 v => some (.str (eightB v), [])
  | _ => none
def nm1 (s : Bs) (k : List Val) (i : Int) : ESt := { n := 41, m := 0, regs := T.mk [(3, .ptr 200 0), (16, .d (rD k)), (17, .d (.int .i64 ((k.map vD).length : Int))), (18, .d (.int .i64 i))], objs := T.mk [(200, .box blT [.ptr 200 0, .own 201 1]), (201, .arr u8T 1 (u8s s))] }
noncomputable def ts6 : List (Nat × Ent) := [(53, wsE), (86, wbE), (56, strE), (85, e1 eightG)]
theorem u8s_len (s : Bs) : (u8s s).length = s.length := by simp [u8s]
theorem u8s_app (a b : Bs) : u8s (a ++ b) = u8s a ++ u8s b := by simp [u8s]
theorem u8s_byte (s : Bs) : (u8s s).map DV.byte = s := by
  unfold u8s
  rw [List.map_map]
  conv => rhs; rw [← List.map_id s]
  apply List.map_congr_left
  intro b _
  simp only [Function.comp_apply, DV.byte, Int.toNat_natCast, UInt8.ofNat_toNat, id]
theorem u8s_isB (s : Bs) : (u8s s).all isB = true := by
  simp only [u8s, List.all_eq_true, List.mem_map]
  rintro x ⟨b, _, rfl⟩
  simp only [isB, decide_eq_true_eq]
  have := b.toNat_lt
  omega
theorem u8s_ne {s : Bs} (h : 1 ≤ s.length) : (!(u8s s).isEmpty) = true := by
  cases s with
  | nil => simp at h
  | cons a r => rfl
theorem ws_ent : EntOk Try.prog 53 wsE := by
  have ok := cfT_ok tb_ok
  intro a o r o' c hg hc
  unfold wsE at hg
  split at hg
  · rename_i x T E els
    simp only [Option.some.injEq, Prod.mk.injEq] at hg
    obtain ⟨rfl, rfl, rfl⟩ := hg
    have hT := nbE (hc (Nat.beq T blT) (by simp))
    have hE := nbE (hc (Nat.beq E u8T) (by simp))
    have h1 := of_decide_eq_true (hc (decide (els.length + x.length ≤ 1000000000)) (by simp))
    subst hT hE
    refine C_of_run (fn := Try.f53) (body := wsC) false (by kernel_rfl) (by kernel_rfl) (by kernel_rfl) ?_
    exact WK.fin ok 1000 0 [] [decide ((els.length + (u8s x).length) * 1 ≤ 2 ^ 38)] [] rfl (by kernel_rfl : runEnd (cfT tb) false _ 1000 0 _ _ (ini 19 [.ptr 0 0, .d (.str x)] [.box blT [.ptr 0 0, .own 1 1], .arr u8T 1 els]) = some (.tup [.d (.int .i64 x.length), .d .nili], [.box blT [.ptr 0 0, .own 2 1], .gone, .arr u8T 1 (els ++ u8s x)], _, _)) ⟨decide_eq_true (by rw [u8s_len]; omega), trivial⟩ trivial ⟨rfl, rfl⟩
  · rename_i x T
    simp only [Option.some.injEq, Prod.mk.injEq] at hg
    obtain ⟨rfl, rfl, rfl⟩ := hg
    have hT := nbE (hc (Nat.beq T blT) (by simp))
    have h1 := of_decide_eq_true (hc (decide (x.length ≤ 1000000000)) (by simp))
    subst hT
    refine C_of_run (fn := Try.f53) (body := wsC) false (by kernel_rfl) (by kernel_rfl) (by kernel_rfl) ?_
    exact WK.fin ok 1000 0 [] [decide ((0 + (u8s x).length) * 1 ≤ 2 ^ 38), true] [] rfl (by kernel_rfl : runEnd (cfT tb) false _ 1000 0 _ _ (ini 19 [.ptr 0 0, .d (.str x)] [.box blT [.d .nilp, .d (.lst 0 [] true)]]) = some (.tup [.d (.int .i64 x.length), .d .nili], [.box blT [.ptr 0 0, .own 1 1], .arr u8T 1 (u8s x)], _, _)) ⟨decide_eq_true (by rw [u8s_len]; omega), rfl, trivial⟩ trivial ⟨rfl, rfl⟩
  · cases hg
theorem wb_ent : EntOk Try.prog 86 wbE := by
  have ok := cfT_ok tb_ok
  intro a o r o' c hg hc
  unfold wbE at hg
  split at hg
  · rename_i x T E els
    simp only [Option.some.injEq, Prod.mk.injEq] at hg
    obtain ⟨rfl, rfl, rfl⟩ := hg
    have hT := nbE (hc (Nat.beq T blT) (by simp))
    have hE := nbE (hc (Nat.beq E u8T) (by simp))
    have h1 := of_decide_eq_true (hc (decide (els.length ≤ 1000000000)) (by simp))
    subst hT hE
    refine C_of_run (fn := Try.f86) (body := wbC) false (by kernel_rfl) (by kernel_rfl) (by kernel_rfl) ?_
    exact WK.fin ok 1000 0 [] [decide ((els.length + 1) * 1 ≤ 2 ^ 38)] [] rfl (by kernel_rfl : runEnd (cfT tb) false _ 1000 0 _ _ (ini 17 [.ptr 0 0, .d (.int .u8 x)] [.box blT [.ptr 0 0, .own 1 1], .arr u8T 1 els]) = some (.d .nili, [.box blT [.ptr 0 0, .own 2 1], .gone, .arr u8T 1 (els ++ [.int .u8 x])], _, _)) ⟨decide_eq_true (by omega), trivial⟩ trivial ⟨rfl, rfl⟩
  · cases hg
theorem four_ent : EntOk Try.prog 99 (e1 fourG) := by
  have ok := cfT_ok tb_ok
  refine e1_ok fun x y c hg hc => ?_
  unfold fourG at hg
  split at hg
  · rename_i v
    simp only [Option.some.injEq, Prod.mk.injEq] at hg
    obtain ⟨rfl, rfl⟩ := hg
    refine C_of_run (fn := Try.f99) (body := foC) true (by kernel_rfl) (by kernel_rfl) (by kernel_rfl) ?_
    exact WK.fin ok 1000 0 [] [true, true, true, true, true, true, true] [] rfl (by kernel_rfl : runEnd (cfT tb) true _ 1000 0 _ _ (ini 18 [.d (.int .u32 v)] []) = some (.d (.str (fourB v)), [], _, _)) ⟨rfl, rfl, rfl, rfl, rfl, rfl, rfl, trivial⟩ trivial ⟨rfl, rfl⟩
  · cases hg
theorem eight_ent : EntOk Try.prog 85 (e1 eightG) := by
  have ok := cfT_ok (l := [(99, e1 fourG)]) (.cons four_ent .nil)
  refine e1_ok fun x y c hg hc => ?_
  unfold eightG at hg
  split at hg
  · rename_i v
    simp only [Option.some.injEq, Prod.mk.injEq] at hg
    obtain ⟨rfl, rfl⟩ := hg
    refine C_of_run (fn := Try.f85) (body := eiC) true (by kernel_rfl) (by kernel_rfl) (by kernel_rfl) ?_
    exact WK.fin ok 1000 0 [] [true, true] [] rfl (by kernel_rfl : runEnd (cfT [(99, e1 fourG)]) true _ 1000 0 _ _ (ini 11 [.d (.int .u64 v)] []) = some (.d (.str (eightB v)), [], _, _)) ⟨rfl, rfl, trivial⟩ trivial ⟨rfl, rfl⟩
  · cases hg
theorem ts6_ok : EntsOk Try.prog ts6 := .cons ws_ent (.cons wb_ent (.cons str_ent (.cons eight_ent .nil)))

/-- a value's part of a name -/
def nmV (v : Val) : Bs := UInt8.ofNat v.k.toNat :: (eightB (IntKind.u64.wrap v.n) ++ eightB (IntKind.u64.wrap (Nat.cast (R := Int) v.s.length)) ++ v.s)
def nmT (t : Bs) : Bs := eightB (IntKind.u64.wrap (Nat.cast (R := Int) t.length)) ++ t
def nameB (x : Chg) : Bs := nmT x.t ++ x.k.flatMap nmV
theorem eightB_len (v : Int) : (eightB v).length = 8 := rfl
theorem nmV_len (v : Val) : (nmV v).length = 17 + v.s.length := by simp [nmV, eightB_len]; omega
theorem flat_len (l : List Val) (h : ∀ v ∈ l, v.s.length ≤ 1000) : (l.flatMap nmV).length ≤ 1017 * l.length := by
  induction l with
  | nil => simp
  | cons v r ih =>
    rw [List.flatMap_cons, List.length_append, nmV_len, List.length_cons]
    have := ih (fun z hz => h z (by simp [hz]))
    have := h v (by simp)
    omega
theorem mayC_spec {c : Chg} (h : mayC c = true) : c.t.length ≤ 32 ∧ c.k.length ≤ 16 ∧ (∀ v ∈ c.k, chk v = 0) ∧ (∀ v ∈ c.k, v.s.length ≤ 1000) := by
  simp only [mayC, Bool.and_eq_true, rowB, decide_eq_true_eq] at h
  have h2 := chkRow_zero (putRow_ok h.1.1.2).1
  exact ⟨h.1.1.1.1.1.2, h2.1, h2.2, fun v hv => (chk_zero (h2.2 v hv)).2.2.2⟩
theorem u8_of {z : Int} (h0 : 0 ≤ z) (h1 : z ≤ 255) : (u8s [UInt8.ofNat z.toNat]) = [.int .u8 z] := by
  simp only [u8s, List.map_cons, List.map_nil]
  rw [UInt8.toNat_ofNat_of_lt' (by simp only [UInt8.size]; omega), Int.toNat_of_nonneg h0]
set_option maxHeartbeats 2000000 in
theorem name_c (x : Chg) (hx : Chg.ok x) (hm : mayC x = true) : C Try.prog 71 [.d (chD x)] [] (fun r o => r = .d (.str (nameB x)) ∧ o = []) := by
  have ok := cfT_ok ts6_ok
  obtain ⟨m1, m2, m3, m4⟩ := mayC_spec hm
  refine C_of_run (fn := Try.f71) (body := naC) true (by kernel_rfl) (by kernel_rfl) (by kernel_rfl) ?_
  have hloop : WK Try.prog 0 (stackAt naC 0) (nm1 (nmT x.t) x.k 0).den (Ends (Try.f71.results.toList) (.d (.str (nameB x)))) := by
    have hwf := hx.1.1
    obtain ⟨k, hk⟩ : ∃ k, x.k = k := ⟨_, rfl⟩
    rw [hk] at m2 m3 m4 hwf ⊢
    have key := WK.rec' (P := Try.prog) (m := 0) (k := stackAt naC 0) (Q := Ends (Try.f71.results.toList) (.d (.str (nameB x)))) (fun (i : Nat) => nm1 (nmT x.t ++ (k.take i).flatMap nmV) k (i : Int)) (fun i => i ≤ k.length) (fun i => k.length - i) ?_ 0 (Nat.zero_le _)
    · simpa using key
    intro i hi ih
    obtain ⟨s, hs⟩ : ∃ s, nmT x.t ++ (k.take i).flatMap nmV = s := ⟨_, rfl⟩
    have hsl : 8 ≤ s.length ∧ s.length ≤ 20000 := by
      have := flat_len (k.take i) (fun v hv => m4 v (List.mem_of_mem_take hv))
      have h2 : (k.take i).length ≤ 16 := by rw [List.length_take]; omega
      have h3 : (nmT x.t).length = 8 + x.t.length := by simp only [nmT, List.length_append, eightB_len]
      rw [← hs, List.length_append]
      omega
    by_cases hlt : i < k.length
    · obtain ⟨w, hw⟩ : ∃ w, k[i] = w := ⟨_, rfl⟩
      have hwm : w ∈ k := by rw [← hw]; exact List.getElem_mem _
      have hws := m4 w hwm
      obtain ⟨k0, k1, _, _⟩ := hwf w hwm
      have hwl : (eightB (IntKind.u64.wrap w.n) ++ eightB (IntKind.u64.wrap (Nat.cast (R := Int) w.s.length))).length = 16 := rfl
      have hwl2 : (eightB (IntKind.u64.wrap w.n) ++ eightB (IntKind.u64.wrap (Nat.cast (R := Int) w.s.length)) ++ w.s).length = 16 + w.s.length := by rw [List.length_append, hwl]
      have hul := u8s_len s
      have hnx := ih (i + 1) hlt (by omega)
      have tx : k.take (i + 1) = k.take i ++ [w] := by rw [List.take_add_one, List.getElem?_eq_getElem hlt, hw]; rfl
      have e1 : nmT x.t ++ (k.take (i + 1)).flatMap nmV = s ++ nmV w := by
        rw [tx, List.flatMap_append, ← List.append_assoc, hs]; simp
      have e2 : u8s (s ++ nmV w) = u8s s ++ [.int .u8 w.k] ++ u8s (eightB (IntKind.u64.wrap w.n) ++ eightB (IntKind.u64.wrap (Nat.cast (R := Int) w.s.length)) ++ w.s) := by
        rw [u8s_app, ← u8_of k0 k1, List.append_assoc, ← u8s_app [_]]
        rfl
      rw [e1] at hnx
      have hnx2 : WK Try.prog 0 (stackAt naC 0) ({ n := 41, m := 0, regs := T.mk [(3, .ptr 200 0), (16, .d (rD k)), (17, .d (.int .i64 ((k.map vD).length : Int))), (18, .d (.int .i64 ((i + 1 : Nat) : Int)))], objs := T.mk [(200, .box blT [.ptr 200 0, .own 201 1]), (201, .arr u8T 1 (u8s s ++ [.int .u8 w.k] ++ u8s (eightB (IntKind.u64.wrap w.n) ++ eightB (IntKind.u64.wrap (Nat.cast (R := Int) w.s.length)) ++ w.s)))] } : ESt).den (Ends (Try.f71.results.toList) (.d (.str (nameB x)))) := by
        rw [← e2]; exact hnx
      rw [hs]
      clear hnx e1 e2 ih
      refine WK.segA ok 1000 0 [(19, RV.d (DV.bool true)), (20, RV.iptr (DV.agg [DV.int Go.IntKind.u8 w.1, DV.int Go.IntKind.i64 w.2, DV.str w.3]) 0), (39, RV.d (DV.int Go.IntKind.i64 (Nat.cast (R := Int) (i + 1))))] [] [3, 16, 17, 18] [decide (0 ≤ (Nat.cast (R := Int) i) ∧ (Nat.cast (R := Int) i) < (Nat.cast (R := Int) (List.map vD k).length)), true, true, decide ((u8s s).length ≤ 1000000000), true, decide ((eightB (Go.IntKind.u64.wrap w.n) ++ eightB (Go.IntKind.u64.wrap (Nat.cast (R := Int) (List.length w.s)))).length + List.length w.s ≤ 2 ^ 62), true, true, decide ((u8s s ++ [DV.int Go.IntKind.u8 w.k]).length + (eightB (Go.IntKind.u64.wrap w.n) ++ eightB (Go.IntKind.u64.wrap (Nat.cast (R := Int) (List.length w.s))) ++ w.s).length ≤ 1000000000)] [(RV.d (DV.bool (decide ((Nat.cast (R := Int) i) < (Nat.cast (R := Int) (List.map vD k).length)))), RV.d (DV.bool true)), (RV.iptr ((List.map vD k).getD (Nat.cast (R := Int) i).toNat DV.nilp) 0, RV.iptr (DV.agg [DV.int Go.IntKind.u8 w.1, DV.int Go.IntKind.i64 w.2, DV.str w.3]) 0), (RV.d (DV.int Go.IntKind.i64 (Go.IntKind.i64.wrap ((Nat.cast (R := Int) i) + 1))), RV.d (DV.int Go.IntKind.i64 (Nat.cast (R := Int) (i + 1))))] rfl (by kernel_rfl : runSegA (cfT ts6) 1000 0 _ _ _ _ (nm1 s k (i : Int)) = some (stackAt naC 0, { n := 41, m := 0, regs := T.mk [(3, .ptr 200 0), (16, .d (rD k)), (17, .d (.int .i64 ((k.map vD).length : Int))), (18, .d (.int .i64 ((i + 1 : Nat) : Int)))], objs := T.mk [(200, .box blT [.ptr 200 0, .own 201 1]), (201, .arr u8T 1 (u8s s ++ [.int .u8 w.k] ++ u8s (eightB (IntKind.u64.wrap w.n) ++ eightB (IntKind.u64.wrap (Nat.cast (R := Int) w.s.length)) ++ w.s)))] }, _, _)) (by refine ⟨?_, ?_, ?_, ?_, ?_, ?_, ?_, ?_, ?_, trivial⟩ <;> (first | rfl | exact bd_map hlt | (refine decide_eq_true ?_; simp only [List.length_append, List.length_singleton, eightB_len, hul]; omega))) (by refine ⟨?_, ?_, ?_, trivial⟩ <;> (first | (refine le_bool (decide_eq_true ?_); rw [List.length_map]; omega) | exact ov_val hlt hw | exact ov_succ (by omega))) ?_
      exact hnx2
    · have e : i = k.length := by omega
      have en : s = nameB x := by rw [← hs, List.take_of_length_le (by omega), ← hk]; rfl
      rw [hs, ← en]
      have hul := u8s_len s
      exact WK.fin ok 1000 0 [(19, RV.d (DV.bool false)), (40, RV.d (DV.str s))] [(u8s s).all isB, !(u8s s).isEmpty, decide ((u8s s).length ≤ 1099511627776)] [(RV.d (DV.bool (decide ((Nat.cast (R := Int) i) < (Nat.cast (R := Int) (List.map vD k).length)))), RV.d (DV.bool false)), (RV.d (DV.str (List.map DV.byte (u8s s))), RV.d (DV.str s))] rfl (by kernel_rfl : runEnd (cfT ts6) true _ 1000 0 _ _ (nm1 s k (i : Int)) = some (RV.d (DV.str s), [], _, _)) (by refine ⟨?_, ?_, ?_, trivial⟩ <;> (first | exact u8s_isB s | exact u8s_ne (by omega) | exact decide_eq_true (by omega))) (by refine ⟨?_, ?_, trivial⟩ <;> (first | (refine le_bool (decide_eq_false ?_); rw [List.length_map]; omega) | exact .of_eq (by rw [u8s_byte]))) ⟨rfl, rfl⟩
  obtain ⟨T, hT⟩ : ∃ T, nameB x = T := ⟨_, rfl⟩
  rw [hT] at hloop ⊢
  have hel : (eightB (IntKind.u64.wrap (Nat.cast (R := Int) x.t.length))).length = 8 := rfl
  refine WK.segA ok 1000 0 [] [] [3, 16, 17, 18] [decide (List.length (eightB (Go.IntKind.u64.wrap (Nat.cast (R := Int) (List.length x.t)))) + List.length x.t ≤ 2 ^ 62), true, decide ((eightB (Go.IntKind.u64.wrap (Nat.cast (R := Int) (List.length x.t))) ++ x.t).length ≤ 1000000000)] [] rfl (by kernel_rfl : runSegA (cfT ts6) 1000 0 _ _ _ _ (ini 41 [.d (chD x)] []) = some (stackAt naC 0, nm1 (eightB (IntKind.u64.wrap (Nat.cast (R := Int) x.t.length)) ++ x.t) x.k 0, _, _)) (by refine ⟨?_, ?_, ?_, trivial⟩ <;> (first | rfl | (refine decide_eq_true ?_; simp only [List.length_append, hel]; omega))) trivial ?_
  exact hloop

/-! ### No two have one name -/
theorem fourB_inj {a b : Int} (ha : 0 ≤ a ∧ a < 4294967296) (hb : 0 ≤ b ∧ b < 4294967296) (h : fourB a = fourB b) : a = b := by
  have key : ∀ {x y : Int}, UInt8.ofNat (IntKind.u8.wrap x).toNat = UInt8.ofNat (IntKind.u8.wrap y).toNat → x % 256 = y % 256 := by
    intro x y e
    have e2 := congrArg UInt8.toNat e
    rw [IntKind.wrap_u8, IntKind.wrap_u8] at e2
    rw [UInt8.toNat_ofNat_of_lt' (by simp only [UInt8.size]; omega), UInt8.toNat_ofNat_of_lt' (by simp only [UInt8.size]; omega)] at e2
    omega
  unfold fourB at h
  injection h with h1 h; injection h with h2 h; injection h with h3 h; injection h with h4 h
  have k1 := key h1; have k2 := key h2; have k3 := key h3; have k4 := key h4
  rw [Int.fdiv_eq_ediv_of_nonneg _ (by omega), Int.fdiv_eq_ediv_of_nonneg _ (by omega)] at k1 k2 k3
  omega
theorem eightB_inj {a b : Int} (ha : 0 ≤ a ∧ a < 18446744073709551616) (hb : 0 ≤ b ∧ b < 18446744073709551616) (h : eightB a = eightB b) : a = b := by
  unfold eightB at h
  obtain ⟨h1, h2⟩ := List.append_inj h rfl
  have k1 := fourB_inj (by rw [IntKind.wrap_u32]; omega) (by rw [IntKind.wrap_u32]; omega) h1
  have k2 := fourB_inj (by rw [IntKind.wrap_u32]; omega) (by rw [IntKind.wrap_u32]; omega) h2
  rw [IntKind.wrap_u32, IntKind.wrap_u32, Int.fdiv_eq_ediv_of_nonneg _ (by omega), Int.fdiv_eq_ediv_of_nonneg _ (by omega)] at k1
  rw [IntKind.wrap_u32, IntKind.wrap_u32] at k2
  omega
theorem u64_rng (z : Int) : 0 ≤ IntKind.u64.wrap z ∧ IntKind.u64.wrap z < 18446744073709551616 := by rw [IntKind.wrap_u64]; omega
theorem eight_len_inj {a b : Nat} (ha : a ≤ 1000000) (hb : b ≤ 1000000) (h : eightB (IntKind.u64.wrap (Nat.cast (R := Int) a)) = eightB (IntKind.u64.wrap (Nat.cast (R := Int) b))) : a = b := by
  have := eightB_inj (u64_rng _) (u64_rng _) h
  rw [IntKind.wrap_u64, IntKind.wrap_u64] at this
  omega
theorem nmV_inj {v w : Val} {r q : Bs} (hv : v.wf) (hw : w.wf) (lv : v.s.length ≤ 1000) (lw : w.s.length ≤ 1000) (h : nmV v ++ r = nmV w ++ q) : v = w ∧ r = q := by
  unfold nmV at h
  rw [List.cons_append, List.cons_append] at h
  injection h with h1 h
  rw [List.append_assoc, List.append_assoc, List.append_assoc, List.append_assoc] at h
  obtain ⟨h2, h⟩ := List.append_inj h rfl
  obtain ⟨h3, h⟩ := List.append_inj h rfl
  have e3 := eight_len_inj (by omega) (by omega) h3
  obtain ⟨h4, h5⟩ := List.append_inj h e3
  have e2 := eightB_inj (u64_rng _) (u64_rng _) h2
  rw [IntKind.wrap_u64, IntKind.wrap_u64] at e2
  obtain ⟨a1, a2, a3, a4⟩ := hv
  obtain ⟨b1, b2, b3, b4⟩ := hw
  have e1 := congrArg UInt8.toNat h1
  rw [UInt8.toNat_ofNat_of_lt' (by simp only [UInt8.size]; omega), UInt8.toNat_ofNat_of_lt' (by simp only [UInt8.size]; omega)] at e1
  refine ⟨?_, h5⟩
  obtain ⟨vk, vn, vs⟩ := v
  obtain ⟨wk, wn, ws⟩ := w
  simp only at *
  have f1 : vk = wk := by omega
  have f2 : vn = wn := by omega
  subst f1 f2 h4; rfl
theorem flat_inj : ∀ {a b : List Val}, (∀ v ∈ a, v.wf) → (∀ v ∈ b, v.wf) → (∀ v ∈ a, v.s.length ≤ 1000) → (∀ v ∈ b, v.s.length ≤ 1000) → a.flatMap nmV = b.flatMap nmV → a = b
  | [], [], _, _, _, _, _ => rfl
  | [], w :: q, _, _, _, _, h => by simp [nmV] at h
  | v :: r, [], _, _, _, _, h => by simp [nmV] at h
  | v :: r, w :: q, h1, h2, h3, h4, h => by
    rw [List.flatMap_cons, List.flatMap_cons] at h
    obtain ⟨e1, e2⟩ := nmV_inj (h1 v (by simp)) (h2 w (by simp)) (h3 v (by simp)) (h4 w (by simp)) h
    rw [e1, flat_inj (a := r) (b := q) (fun z hz => h1 z (by simp [hz])) (fun z hz => h2 z (by simp [hz])) (fun z hz => h3 z (by simp [hz])) (fun z hz => h4 z (by simp [hz])) e2]
theorem name_iff {x y : Chg} (hx : Chg.ok x) (hy : Chg.ok y) (mx : mayC x = true) (my : mayC y = true) : nameB x = nameB y ↔ x.t = y.t ∧ x.k = y.k := by
  constructor
  · intro h
    obtain ⟨a1, a2, a3, a4⟩ := mayC_spec mx
    obtain ⟨b1, b2, b3, b4⟩ := mayC_spec my
    unfold nameB nmT at h
    rw [List.append_assoc, List.append_assoc] at h
    obtain ⟨h1, h⟩ := List.append_inj h rfl
    have e1 := eight_len_inj (by omega) (by omega) h1
    obtain ⟨h2, h3⟩ := List.append_inj h e1
    exact ⟨h2, flat_inj hx.1.1 hy.1.1 a4 b4 h3⟩
  · rintro ⟨h1, h2⟩
    unfold nameB; rw [h1, h2]
def nameG : DV → Option (DV × List Bool) := fun x => some (.str (nameB (toChg x)), [isC x, mayC (toChg x)])
theorem name_ent : EntOk Try.prog 71 (e1 nameG) := by
  refine e1_ok fun x y c hg hc => ?_
  simp only [nameG, Option.some.injEq, Prod.mk.injEq] at hg
  obtain ⟨rfl, rfl⟩ := hg
  obtain ⟨a, rfl, wa⟩ := isC_spec (hc (isC x) (by simp))
  have hm := hc (mayC (toChg (chD a))) (by simp)
  rw [toChg_chD] at hm ⊢
  exact name_c a wa hm
end Go.Proofs.Ytljfolepmkcjlaa

/-
  Changes of whatever size, as a law is handed them.
-/
namespace Go.Proofs.Ytljfolepmkcjlaa
open Go.RowKit Plain Am IntWalk
set_option maxRecDepth 100000

def isRw : DV → Bool
  | .lst sz els full => els.all isVal && decide (sz = 3) && !full
  | _ => false
def isCw : DV → Bool
  | .agg [.str _, a, b, c] => isRw a && isRw b && isRw c
  | _ => false
def isLw : DV → Bool
  | .lst sz els full => decide (els.length ≤ 9223372036854775807) && els.all isCw && decide (sz = 4) && !full
  | _ => false
theorem isRw_spec {x : DV} (h : isRw x = true) : ∃ l, x = rD l ∧ ∀ v ∈ l, v.wf := by
  unfold isRw at h
  split at h
  · rename_i sz els full
    simp only [Bool.and_eq_true, decide_eq_true_eq, Bool.not_eq_true', List.all_eq_true] at h
    obtain ⟨⟨h1, rfl⟩, rfl⟩ := h
    obtain ⟨g1, g2⟩ := map_toRow h1
    exact ⟨toRow els, by rw [rD, ← g1], g2⟩
  · cases h
theorem isCw_spec {x : DV} (h : isCw x = true) : ∃ c, x = chD c ∧ c.wf := by
  unfold isCw at h
  split at h
  · rename_i t a b c
    simp only [Bool.and_eq_true] at h
    obtain ⟨⟨h1, h2⟩, h3⟩ := h
    obtain ⟨k, rfl, w1⟩ := isRw_spec h1
    obtain ⟨o, rfl, w2⟩ := isRw_spec h2
    obtain ⟨n, rfl, w3⟩ := isRw_spec h3
    exact ⟨⟨t, k, o, n⟩, rfl, w1, w2, w3⟩
  · cases h
theorem isLw_spec {x : DV} (h : isLw x = true) : ∃ l, x = chL l ∧ l.length ≤ 9223372036854775807 ∧ ∀ c ∈ l, c.wf := by
  unfold isLw at h
  split at h
  · rename_i sz els full
    simp only [Bool.and_eq_true, decide_eq_true_eq, Bool.not_eq_true', List.all_eq_true] at h
    obtain ⟨⟨⟨h1, h2⟩, rfl⟩, rfl⟩ := h
    have : ∃ l : List Chg, els = l.map chD ∧ ∀ c ∈ l, c.wf := by
      clear h1
      induction els with
      | nil => exact ⟨[], rfl, by simp⟩
      | cons x r ih =>
        obtain ⟨l, rfl, hl⟩ := ih (fun y hy => h2 y (by simp [hy]))
        obtain ⟨c, rfl, hc⟩ := isCw_spec (h2 x (by simp))
        exact ⟨c :: l, rfl, fun d hd => by
          rcases List.mem_cons.1 hd with rfl | hd
          · exact hc
          · exact hl d hd⟩
    obtain ⟨l, rfl, hl⟩ := this
    exact ⟨l, rfl, by simpa using h1, hl⟩
  · cases h
theorem isRw_rD {l : List Val} (hw : ∀ v ∈ l, v.wf) : isRw (rD l) = true := by
  simp only [isRw, Bool.and_eq_true, List.all_eq_true, List.mem_map]
  refine ⟨⟨?_, rfl⟩, rfl⟩
  rintro x ⟨v, hv, rfl⟩
  exact (wfB_iff v).2 (hw v hv)
theorem isLw_chL {l : List Chg} (hl : l.length ≤ 9223372036854775807) (hw : ∀ c ∈ l, c.wf) : isLw (chL l) = true := by
  simp only [isLw, chL, List.length_map, Bool.and_eq_true, decide_eq_true_eq, List.all_eq_true, List.mem_map]
  refine ⟨⟨⟨hl, ?_⟩, trivial⟩, rfl⟩
  rintro x ⟨c, hc, rfl⟩
  obtain ⟨w1, w2, w3⟩ := hw c hc
  simp only [chD, isCw, isRw_rD w1, isRw_rD w2, isRw_rD w3]; rfl
theorem nil_leM : RVle (.d (.lst 0 [] true)) (.d (.lst 4 [] false)) := by
  intro κ φ O h v r
  cases r with
  | d hr =>
    cases hr with
    | lst0 hf => exact .d (.lst0 (fun h => by cases h))
    | lst _ _ hf _ _ _ _ => have := (hf rfl).2; omega
end Go.Proofs.Ytljfolepmkcjlaa

/-
  change.merge, run.
-/
namespace Go.Proofs.Ytljfolepmkcjlaa
open Go.RowKit Plain Am IntWalk
set_option maxRecDepth 100000
set_option linter.unusedVariables false
set_option linter.unusedSimpArgs false

noncomputable abbrev mgC : Code := bodyOf Try.f52
def mg1 (M : List (DV × DV)) (all l : List DV) (i : Int) : ESt := { n := 57, m := 0, regs := T.mk [(4, .map 200), (5, .own 201 4), (12, .d (.lst 4 l false)), (13, .d (.int .i64 (l.length : Int))), (14, .d (.int .i64 i))], objs := T.mk [(200, .map M), (201, .arr chT 4 all)] }
noncomputable def ts7 : List (Nat × Ent) := [(71, e1 nameG), (60, e2 eqG), (72, delE), (74, srtE)]
/-- the map of the names' places -/
def mapFrom : Nat → List Chg → List (DV × DV)
  | _, [] => []
  | k, x :: r => (.str (nameB x), .int .i64 k) :: mapFrom (k + 1) r
theorem ts7_ok : EntsOk Try.prog ts7 := .cons name_ent (.cons (eqG_ent same_c) (.cons del_ent (.cons srt_ent .nil)))
theorem und9 : (cfB ts7).E.und 9 = some .string := by kernel_rfl
theorem mapFrom_keys : ∀ (k : Nat) (A : List Chg), ((mapFrom k A).all fun p => keyOk ((cfB ts7).E.und 9) p.fst) = true
  | _, [] => rfl
  | k, x :: r => by
    simp only [mapFrom, List.all_cons, mapFrom_keys (k + 1) r, Bool.and_true]
    rw [und9]; rfl
/-- names tell keys, for x among A -/
def nameOk (A : List Chg) (x : Chg) : Prop := ∀ y ∈ A, (nameB x == nameB y) = keyB y x
theorem mget_none {x : Chg} : ∀ {A : List Chg} (k : Nat), nameOk A x → A.findIdx? (fun y => keyB y x) = none → mhas (.str (nameB x)) (mapFrom k A) = false ∧ ∀ v, mput (.str (nameB x)) v (mapFrom k A) = mapFrom k A ++ [(.str (nameB x), v)]
  | [], k, _, _ => ⟨rfl, fun _ => rfl⟩
  | y :: r, k, hn, h => by
    rw [List.findIdx?_cons] at h
    have hy := hn y (by simp)
    cases hk : keyB y x with
    | true => rw [hk] at h; simp at h
    | false =>
      rw [hk] at h hy
      have h2 : r.findIdx? (fun y => keyB y x) = none := by simpa using h
      obtain ⟨i1, i2⟩ := mget_none (k + 1) (fun z hz => hn z (by simp [hz])) h2
      have he : keq (.str (nameB x)) (.str (nameB y)) = false := hy
      refine ⟨?_, fun v => ?_⟩
      · show (keq (.str (nameB x)) (.str (nameB y)) || mhas _ (mapFrom (k + 1) r)) = false
        rw [he, i1]; rfl
      · show (bif keq (.str (nameB x)) (.str (nameB y)) then _ else _) = _
        rw [he, cond_false, i2 v]; rfl
theorem mget_some {x : Chg} : ∀ {A : List Chg} (k i : Nat), nameOk A x → A.findIdx? (fun y => keyB y x) = some i → mhas (.str (nameB x)) (mapFrom k A) = true ∧ ∀ z, mget (.str (nameB x)) z (mapFrom k A) = .int .i64 ((k + i : Nat) : Int)
  | [], k, i, _, h => by simp at h
  | y :: r, k, i, hn, h => by
    rw [List.findIdx?_cons] at h
    have hy := hn y (by simp)
    cases hk : keyB y x with
    | true =>
      rw [hk] at h hy
      simp only [if_true, Option.some.injEq] at h
      subst h
      have he : keq (.str (nameB x)) (.str (nameB y)) = true := hy
      refine ⟨?_, fun z => ?_⟩
      · show (keq (.str (nameB x)) (.str (nameB y)) || mhas _ (mapFrom (k + 1) r)) = true
        rw [he]; rfl
      · show (bif keq (.str (nameB x)) (.str (nameB y)) then _ else _) = _
        rw [he]; rfl
    | false =>
      rw [hk] at h hy
      have he : keq (.str (nameB x)) (.str (nameB y)) = false := hy
      cases h2 : r.findIdx? (fun y => keyB y x) with
      | none => rw [h2] at h; simp at h
      | some j =>
        rw [h2] at h
        simp only [Option.map_some] at h
        have hj : j + 1 = i := by simpa using h
        obtain ⟨i1, i2⟩ := mget_some (k + 1) j (fun z hz => hn z (by simp [hz])) h2
        refine ⟨?_, fun z => ?_⟩
        · show (keq (.str (nameB x)) (.str (nameB y)) || mhas _ (mapFrom (k + 1) r)) = true
          rw [i1, Bool.or_true]
        · show (bif keq (.str (nameB x)) (.str (nameB y)) then _ else _) = _
          rw [he, cond_false, i2 z, ← hj]
          congr 2; omega
theorem mapFrom_snoc (x : Chg) : ∀ (k : Nat) (A : List Chg), mapFrom k (A ++ [x]) = mapFrom k A ++ [(.str (nameB x), .int .i64 ((k + A.length : Nat) : Int))]
  | k, [] => by simp [mapFrom]
  | k, y :: r => by
    simp only [List.cons_append, mapFrom, mapFrom_snoc x (k + 1) r, List.length_cons]
    rw [show k + 1 + r.length = k + (r.length + 1) by omega]
theorem mapFrom_set {y z : Chg} (ht : z.t = y.t) (hk : z.k = y.k) : ∀ (k i : Nat) (A : List Chg), A[i]? = some y → mapFrom k (A.set i z) = mapFrom k A
  | k, i, [], h => by simp at h
  | k, 0, w :: r, h => by
    simp only [List.getElem?_cons_zero, Option.some.injEq] at h
    subst h
    simp only [List.set_cons_zero, mapFrom, nameB, ht, hk]
  | k, i + 1, w :: r, h => by
    rw [List.getElem?_cons_succ] at h
    simp only [List.set_cons_succ, mapFrom, mapFrom_set ht hk (k + 1) i r h]
/-- of the key of one that may be -/
def keyed (y : Chg) : Prop := ∃ z : Chg, Chg.ok z ∧ mayC z = true ∧ y.t = z.t ∧ y.k = z.k
theorem keyed_name {x y : Chg} (hx : Chg.ok x) (mx : mayC x = true) (hy : keyed y) : (nameB x == nameB y) = keyB y x := by
  obtain ⟨z, z1, z2, z3, z4⟩ := hy
  have e : nameB y = nameB z := by unfold nameB; rw [z3, z4]
  rw [e]
  have := name_iff hx z1 mx z2
  rw [Bool.eq_iff_iff, beq_iff_eq, this, keyB_iff, z3, z4]
  exact ⟨fun ⟨a, b⟩ => ⟨a.symm, b.symm⟩, fun ⟨a, b⟩ => ⟨a.symm, b.symm⟩⟩
theorem keyed_row {y : Chg} (hy : keyed y) : rowOk y.k := by
  obtain ⟨z, z1, z2, z3, z4⟩ := hy
  rw [z4]; exact mayC_key z2 z1.1
theorem ok_set {y x : Chg} (hy : Chg.ok y) (hx : Chg.ok x) : Chg.ok ⟨y.t, y.k, y.o, x.n⟩ := ⟨⟨hy.1.1, hy.1.2.1, hx.1.2.2⟩, hy.2.1, hy.2.2.1, hx.2.2.2⟩
theorem ov_nm {x : Chg} : RVle (.d (.str (nameB (toChg (chD x))))) (.d (.str (nameB x))) := .of_eq (by rw [toChg_chD])
theorem ov_fld {l : List Chg} {i : Nat} {x : Chg} (h : l[i]? = some x) : RVle (.d (((l.map chD).getD (Nat.cast (R := Int) i).toNat .nilp).cells.getD 3 .nilp)) (.d (rD x.n)) := .of_eq (by rw [Int.toNat_natCast, getD_of h]; rfl)
theorem set_fld {l : List Chg} {i : Nat} {x y : Chg} (h : l[i]? = some y) : (l.map chD).set i (.agg (splice (((l.map chD).getD i .nilp).cells) 3 [rD x.n])) = (l.set i ⟨y.t, y.k, y.o, x.n⟩).map chD := by
  rw [getD_of h, ← map_set']; rfl
abbrev EndsMg (L : List Chg) : SSt → Prop := Ends (Try.f52.results.toList) (.tup [.d (chL (mrgC L).1), .d (.int .i64 (mrgC L).2)])
theorem nokey_snoc {A : List Chg} {x : Chg} (h : nokey A) (hx : A.findIdx? (fun y => keyB y x) = none) : nokey (A ++ [x]) := by
  refine nokey_append.2 ⟨h, ⟨by simp, trivial⟩, fun y hy z hz => ?_⟩
  rw [List.mem_singleton.1 hz]
  rw [List.findIdx?_eq_none_iff] at hx
  exact hx y hy
theorem nokey_set {y z : Chg} (ht : z.t = y.t) (hk : z.k = y.k) : ∀ {A : List Chg} {i : Nat}, nokey A → A[i]? = some y → nokey (A.set i z)
  | [], i, _, h => by simp at h
  | w :: r, 0, hn, h => by
    simp only [List.getElem?_cons_zero, Option.some.injEq] at h
    subst h
    refine ⟨fun q hq => ?_, hn.2⟩
    have := hn.1 q hq
    simp only [keyB, ht, hk] at this ⊢; exact this
  | w :: r, i + 1, hn, h => by
    rw [List.getElem?_cons_succ] at h
    refine ⟨fun q hq => ?_, nokey_set ht hk hn.2 h⟩
    rcases List.mem_or_eq_of_mem_set hq with hq | rfl
    · exact hn.1 q hq
    · have := hn.1 y (List.mem_of_getElem? h)
      simp only [keyB, ht, hk] at this ⊢; exact this
set_option maxHeartbeats 4000000 in
theorem merge_c (L : List Chg) (hok : okL L) (hm : ∀ x ∈ L, mayC x = true) (hl6 : L.length ≤ 10000) : C Try.prog 52 [.d (chL L)] [] (fun r o => r = .tup [.d (chL (mrgC L).1), .d (.int .i64 (mrgC L).2)] ∧ o = []) := by
  have ok := cfB_ok ts7_ok
  refine C_of_run (fn := Try.f52) (body := mgC) true (by kernel_rfl) (by kernel_rfl) (by kernel_rfl) ?_
  have hloop : WK Try.prog 0 (stackAt mgC 0) (mg1 [] [] (L.map chD) 0).den (EndsMg L) := by
    have key := WK.rec' (P := Try.prog) (m := 0) (k := stackAt mgC 0) (Q := EndsMg L) (fun (q : Nat × List Chg) => mg1 (mapFrom 0 q.2) (q.2.map chD) (L.map chD) (q.1 : Int)) (fun q => q.1 ≤ L.length ∧ q.2.length ≤ q.1 ∧ mFold q.2 (L.drop q.1) = mFold [] L ∧ nokey q.2 ∧ (∀ y ∈ q.2, Chg.ok y ∧ keyed y)) (fun q => L.length - q.1) ?_ (0, []) ⟨Nat.zero_le _, Nat.le_refl _, rfl, trivial, by simp⟩
    · exact key
    rintro ⟨i, A⟩ ⟨hi, hA6, hfold, hnk, hA⟩ ih
    simp only at hi hA6 hfold hnk hA ih ⊢
    have hkeys := mapFrom_keys 0 A
    by_cases hlt : i < L.length
    · obtain ⟨x, hx⟩ : ∃ x, L[i] = x := ⟨_, rfl⟩
      have hxm : x ∈ L := by rw [← hx]; exact List.getElem_mem _
      have hxo := hok.2 x hxm
      have mx := hm x hxm
      have hname : nameOk A x := fun y hy => keyed_name hxo mx (hA y hy).2
      have ex : L.drop i = x :: L.drop (i + 1) := by rw [List.drop_eq_getElem_cons hlt, hx]
      rw [ex] at hfold
      have hmx : mayC (toChg (chD x)) = true := by rw [toChg_chD]; exact mx
      cases hf : A.findIdx? (fun y => keyB y x) with
      | none =>
        obtain ⟨g1, g2⟩ := mget_none 0 hname hf
        have hst : mStep A x = some (A ++ [x]) := by unfold mStep; rw [hf]
        simp only [mFold, hst] at hfold
        have hw := ih (i + 1, A ++ [x]) ⟨hlt, by simp only [List.length_append, List.length_singleton]; omega, hfold, nokey_snoc hnk hf, fun y hy => by
          rcases List.mem_append.1 hy with hy | hy
          · exact hA y hy
          · rw [List.mem_singleton.1 hy]; exact ⟨hxo, x, hxo, mx, rfl, rfl⟩⟩ (by simp only; omega)
        simp only [mapFrom_snoc, Nat.zero_add, List.map_append, List.map_cons, List.map_nil] at hw
        rw [← g2] at hw
        have hal : (A.map chD).length = A.length := List.length_map ..
        rw [← hal] at hw
        obtain ⟨all, hall⟩ : ∃ all, A.map chD = all := ⟨_, rfl⟩
        obtain ⟨M, hM⟩ : ∃ M, mapFrom 0 A = M := ⟨_, rfl⟩
        obtain ⟨nm, hnm⟩ : ∃ nm, nameB x = nm := ⟨_, rfl⟩
        have hon : RVle (.d (.str (nameB (toChg (chD x))))) (.d (.str nm)) := by rw [← hnm]; exact ov_nm
        have hb1 := bd_map (f := chD) hlt
        have hb2 := ov_chg hlt hx
        have hb3 : decide ((Nat.cast (R := Int) i) < (Nat.cast (R := Int) (L.map chD).length)) = true := decide_eq_true (by rw [List.length_map]; omega)
        obtain ⟨l, hl⟩ : ∃ l, L.map chD = l := ⟨_, rfl⟩
        rw [hall] at hw hal ⊢
        rw [hM] at hw g1 hkeys ⊢
        rw [hnm] at hw g1
        rw [hl] at hw hb1 hb2 hb3 ⊢
        clear ih g2 hname hfold hA
        refine WK.segA ok 1000 0 [(15, RV.d (DV.bool true)), (16, RV.iptr (DV.agg [DV.str x.1, DV.lst 3 (List.map vD x.2) false, DV.lst 3 (List.map vD x.3) false, DV.lst 3 (List.map vD x.4) false]) 0), (19, RV.d (DV.str nm)), (25, RV.d (DV.bool false)), (51, RV.d (DV.int Go.IntKind.i64 (Nat.cast (R := Int) (i + 1))))] [] [4, 5, 12, 13, 14] [decide (0 ≤ (Nat.cast (R := Int) i) ∧ (Nat.cast (R := Int) i) < (Nat.cast (R := Int) l.length)), isC (DV.agg [DV.str x.1, DV.lst 3 (List.map vD x.2) false, DV.lst 3 (List.map vD x.3) false, DV.lst 3 (List.map vD x.4) false]), Plain.mayC { t := x.1, k := List.map toVal (List.map vD x.k), o := List.map toVal (List.map vD x.o), n := List.map toVal (List.map vD x.n) }, M.all fun p => keyOk ((cfB ts7).E.und (9)) p.fst, M.all fun p => keyOk ((cfB ts7).E.und (9)) p.fst, decide ((all.length + [DV.agg [DV.str x.t, rD x.k, rD x.o, rD x.n]].length) * 88 ≤ 2 ^ 38)] [(RV.d (DV.bool (decide ((Nat.cast (R := Int) i) < (Nat.cast (R := Int) l.length)))), RV.d (DV.bool true)), (RV.iptr (l.getD (Nat.cast (R := Int) i).toNat DV.nilp) 0, RV.iptr (DV.agg [DV.str x.1, DV.lst 3 (List.map vD x.2) false, DV.lst 3 (List.map vD x.3) false, DV.lst 3 (List.map vD x.4) false]) 0), (RV.d (DV.str (nameB { t := x.1, k := List.map toVal (List.map vD x.k), o := List.map toVal (List.map vD x.o), n := List.map toVal (List.map vD x.n) })), RV.d (DV.str nm)), (RV.d (DV.bool (mhas (DV.str nm) M)), RV.d (DV.bool false)), (RV.d (DV.int Go.IntKind.i64 (Go.IntKind.i64.wrap ((Nat.cast (R := Int) i) + 1))), RV.d (DV.int Go.IntKind.i64 (Nat.cast (R := Int) (i + 1))))] rfl (by kernel_rfl : runSegA (cfB ts7) 1000 0 _ _ _ _ (mg1 M all l (i : Int)) = some (stackAt mgC 0, mg1 (mput (.str nm) (.int .i64 (all.length : Int)) M) (all ++ [chD x]) l ((i + 1 : Nat) : Int), _, _)) (by refine ⟨?_, ?_, ?_, ?_, ?_, ?_, trivial⟩ <;> (first | exact hb1 | exact isC_chD hxo | exact hmx | exact hkeys | (refine decide_eq_true ?_; simp only [List.length_singleton]; omega))) (by refine ⟨?_, ?_, ?_, ?_, ?_, trivial⟩ <;> (first | exact le_bool hb3 | exact hb2 | exact hon | exact le_bool g1 | exact ov_succ (by omega))) ?_
        exact hw
      | some j =>
        obtain ⟨g1, g2⟩ := mget_some 0 j hname hf
        obtain ⟨hjl, hjk, _⟩ := List.findIdx?_eq_some_iff_getElem.1 hf
        obtain ⟨y, hy⟩ : ∃ y, A[j] = y := ⟨_, rfl⟩
        have gy : A[j]? = some y := by rw [List.getElem?_eq_getElem hjl, hy]
        obtain ⟨hyo, hyk⟩ := hA y (List.mem_of_getElem? gy)
        have hg2 : RVle (.d (mget (.str (nameB x)) (.int .i64 0) (mapFrom 0 A))) (.d (.int .i64 (j : Int))) := .of_eq (by rw [g2, Nat.zero_add])
        have by1 := bd_in gy
        have by2 := bd_in2 gy
        have by3 := bd_ble gy
        have by4 := ov_fld gy
        have hb1 := bd_map (f := chD) hlt
        have hb2 := ov_chg hlt hx
        have hb3 : decide ((Nat.cast (R := Int) i) < (Nat.cast (R := Int) (L.map chD).length)) = true := decide_eq_true (by rw [List.length_map]; omega)
        by_cases hyx : y.n = x.o
        · have hst : mStep A x = some (A.set j ⟨y.t, y.k, y.o, x.n⟩) := by unfold mStep; rw [hf]; simp only [gy]; rw [if_pos hyx]
          simp only [mFold, hst] at hfold
          have hw := ih (i + 1, A.set j ⟨y.t, y.k, y.o, x.n⟩) ⟨hlt, by simp only [List.length_set]; omega, hfold, nokey_set (y := y) (z := ⟨y.t, y.k, y.o, x.n⟩) rfl rfl hnk gy, fun z hz => by
            rcases List.mem_or_eq_of_mem_set hz with hz | rfl
            · exact hA z hz
            · obtain ⟨q, q1, q2, q3, q4⟩ := hyk
              exact ⟨ok_set hyo hxo, q, q1, q2, q3, q4⟩⟩ (by simp only; omega)
          simp only [mapFrom_set (y := y) (z := ⟨y.t, y.k, y.o, x.n⟩) rfl rfl 0 j A gy] at hw
          rw [← set_fld gy] at hw
          have hsame : RVle (.d (.bool (!decide (unR (rD y.n) = unR (rD x.o))))) (.d (.bool false)) := le_bool (by rw [unR_rD, unR_rD, decide_eq_true hyx]; rfl)
          obtain ⟨all, hall⟩ : ∃ all, A.map chD = all := ⟨_, rfl⟩
          obtain ⟨M, hM⟩ : ∃ M, mapFrom 0 A = M := ⟨_, rfl⟩
          obtain ⟨nm, hnm⟩ : ∃ nm, nameB x = nm := ⟨_, rfl⟩
          have hon : RVle (.d (.str (nameB (toChg (chD x))))) (.d (.str nm)) := by rw [← hnm]; exact ov_nm
          obtain ⟨l, hl⟩ : ∃ l, L.map chD = l := ⟨_, rfl⟩
          rw [hall] at hw by1 by2 by3 by4 ⊢
          rw [hM] at hw g1 hg2 hkeys ⊢
          rw [hnm] at g1 hg2
          rw [hl] at hw hb1 hb2 hb3 ⊢
          clear ih hname hfold hA
          refine WK.segA ok 1000 0 [(15, RV.d (DV.bool true)), (16, RV.iptr (DV.agg [DV.str x.1, DV.lst 3 (List.map vD x.2) false, DV.lst 3 (List.map vD x.3) false, DV.lst 3 (List.map vD x.4) false]) 0), (19, RV.d (DV.str nm)), (25, RV.d (DV.bool true)), (24, RV.d (DV.int Go.IntKind.i64 (Nat.cast (R := Int) j))), (40, RV.d (DV.lst 3 (List.map vD y.4) false)), (44, RV.d (DV.bool false)), (51, RV.d (DV.int Go.IntKind.i64 (Nat.cast (R := Int) (i + 1))))] [] [4, 5, 12, 13, 14] [decide (0 ≤ (Nat.cast (R := Int) i) ∧ (Nat.cast (R := Int) i) < (Nat.cast (R := Int) l.length)), isC (DV.agg [DV.str x.1, DV.lst 3 (List.map vD x.2) false, DV.lst 3 (List.map vD x.3) false, DV.lst 3 (List.map vD x.4) false]), Plain.mayC { t := x.1, k := List.map toVal (List.map vD x.k), o := List.map toVal (List.map vD x.o), n := List.map toVal (List.map vD x.n) }, M.all fun p => keyOk ((cfB ts7).E.und (9)) p.fst, decide (0 ≤ (Nat.cast (R := Int) j) ∧ (Nat.cast (R := Int) j) < (Nat.cast (R := Int) all.length)), decide ((Nat.cast (R := Int) j).toNat < all.length), Nat.ble 4 (all.getD (Nat.cast (R := Int) j).toNat DV.nilp).cells.length, decide ((List.map vD y.n).length ≤ 65536) && (List.map vD y.4).all isVal && true && true, decide ((List.map vD x.o).length ≤ 65536) && (List.map vD x.3).all isVal && true && true, decide (0 ≤ (Nat.cast (R := Int) j) ∧ (Nat.cast (R := Int) j) < (Nat.cast (R := Int) all.length)), decide ((Nat.cast (R := Int) j).toNat < all.length), Nat.ble 4 (all.getD (Nat.cast (R := Int) j).toNat DV.nilp).cells.length] [(RV.d (DV.bool (decide ((Nat.cast (R := Int) i) < (Nat.cast (R := Int) l.length)))), RV.d (DV.bool true)), (RV.iptr (l.getD (Nat.cast (R := Int) i).toNat DV.nilp) 0, RV.iptr (DV.agg [DV.str x.1, DV.lst 3 (List.map vD x.2) false, DV.lst 3 (List.map vD x.3) false, DV.lst 3 (List.map vD x.4) false]) 0), (RV.d (DV.str (nameB { t := x.1, k := List.map toVal (List.map vD x.k), o := List.map toVal (List.map vD x.o), n := List.map toVal (List.map vD x.n) })), RV.d (DV.str nm)), (RV.d (mget (DV.str nm) (DV.int Go.IntKind.i64 (0)) M), RV.d (DV.int Go.IntKind.i64 (Nat.cast (R := Int) j))), (RV.d (DV.bool (mhas (DV.str nm) M)), RV.d (DV.bool true)), (RV.d ((all.getD (Nat.cast (R := Int) j).toNat DV.nilp).cells.getD 3 DV.nilp), RV.d (DV.lst 3 (List.map vD y.4) false)), (RV.d (DV.bool !decide (unR (rD y.n) = unR (rD x.o))), RV.d (DV.bool false)), (RV.d (DV.int Go.IntKind.i64 (Go.IntKind.i64.wrap ((Nat.cast (R := Int) i) + 1))), RV.d (DV.int Go.IntKind.i64 (Nat.cast (R := Int) (i + 1))))] rfl (by kernel_rfl : runSegA (cfB ts7) 1000 0 _ _ _ _ (mg1 M all l (i : Int)) = some (stackAt mgC 0, mg1 M (all.set j (.agg (splice ((all.getD j .nilp).cells) 3 [rD x.n]))) l ((i + 1 : Nat) : Int), _, _)) (by refine ⟨?_, ?_, ?_, ?_, ?_, ?_, ?_, ?_, ?_, ?_, ?_, ?_, trivial⟩ <;> (first | exact hb1 | exact isC_chD hxo | exact hmx | exact hkeys | exact by1 | exact by2 | exact by3 | exact ok_n hyo | exact ok_o hxo)) (by refine ⟨?_, ?_, ?_, ?_, ?_, ?_, ?_, ?_, trivial⟩ <;> (first | exact le_bool hb3 | exact hb2 | exact hon | exact hg2 | exact le_bool g1 | exact by4 | exact hsame | exact ov_succ (by omega))) ?_
          exact hw
        · have hst : mStep A x = none := by unfold mStep; rw [hf]; simp only [gy]; rw [if_neg hyx]
          simp only [mFold, hst] at hfold
          have hR : mrgC L = ([], 220) := by unfold mrgC; rw [← hfold]
          show WK Try.prog 0 _ _ (Ends (Try.f52.results.toList) (.tup [.d (chL (mrgC L).1), .d (.int .i64 (mrgC L).2)]))
          rw [hR]
          have hsame : RVle (.d (.bool (!decide (unR (rD y.n) = unR (rD x.o))))) (.d (.bool true)) := le_bool (by rw [unR_rD, unR_rD, decide_eq_false hyx]; rfl)
          obtain ⟨all, hall⟩ : ∃ all, A.map chD = all := ⟨_, rfl⟩
          obtain ⟨M, hM⟩ : ∃ M, mapFrom 0 A = M := ⟨_, rfl⟩
          obtain ⟨nm, hnm⟩ : ∃ nm, nameB x = nm := ⟨_, rfl⟩
          have hon : RVle (.d (.str (nameB (toChg (chD x))))) (.d (.str nm)) := by rw [← hnm]; exact ov_nm
          obtain ⟨l, hl⟩ : ∃ l, L.map chD = l := ⟨_, rfl⟩
          rw [hall] at by1 by2 by3 by4 ⊢
          rw [hM] at g1 hg2 hkeys ⊢
          rw [hnm] at g1 hg2
          rw [hl] at hb1 hb2 hb3 ⊢
          clear ih hname hfold hA
          exact WK.fin ok 1000 0 [(15, RV.d (DV.bool true)), (16, RV.iptr (DV.agg [DV.str x.1, DV.lst 3 (List.map vD x.2) false, DV.lst 3 (List.map vD x.3) false, DV.lst 3 (List.map vD x.4) false]) 0), (19, RV.d (DV.str nm)), (25, RV.d (DV.bool true)), (24, RV.d (DV.int Go.IntKind.i64 (Nat.cast (R := Int) j))), (40, RV.d (DV.lst 3 (List.map vD y.4) false)), (44, RV.d (DV.bool true)), (2, RV.d (DV.lst 4 [] false))] [decide (0 ≤ (Nat.cast (R := Int) i) ∧ (Nat.cast (R := Int) i) < (Nat.cast (R := Int) l.length)), isC (DV.agg [DV.str x.1, DV.lst 3 (List.map vD x.2) false, DV.lst 3 (List.map vD x.3) false, DV.lst 3 (List.map vD x.4) false]), Plain.mayC { t := x.1, k := List.map toVal (List.map vD x.k), o := List.map toVal (List.map vD x.o), n := List.map toVal (List.map vD x.n) }, M.all fun p => keyOk ((cfB ts7).E.und (9)) p.fst, decide (0 ≤ (Nat.cast (R := Int) j) ∧ (Nat.cast (R := Int) j) < (Nat.cast (R := Int) all.length)), decide ((Nat.cast (R := Int) j).toNat < all.length), Nat.ble 4 (all.getD (Nat.cast (R := Int) j).toNat DV.nilp).cells.length, decide ((List.map vD y.n).length ≤ 65536) && (List.map vD y.4).all isVal && true && true, decide ((List.map vD x.o).length ≤ 65536) && (List.map vD x.3).all isVal && true && true] [(RV.d (DV.bool (decide ((Nat.cast (R := Int) i) < (Nat.cast (R := Int) l.length)))), RV.d (DV.bool true)), (RV.iptr (l.getD (Nat.cast (R := Int) i).toNat DV.nilp) 0, RV.iptr (DV.agg [DV.str x.1, DV.lst 3 (List.map vD x.2) false, DV.lst 3 (List.map vD x.3) false, DV.lst 3 (List.map vD x.4) false]) 0), (RV.d (DV.str (nameB { t := x.1, k := List.map toVal (List.map vD x.k), o := List.map toVal (List.map vD x.o), n := List.map toVal (List.map vD x.n) })), RV.d (DV.str nm)), (RV.d (mget (DV.str nm) (DV.int Go.IntKind.i64 (0)) M), RV.d (DV.int Go.IntKind.i64 (Nat.cast (R := Int) j))), (RV.d (DV.bool (mhas (DV.str nm) M)), RV.d (DV.bool true)), (RV.d ((all.getD (Nat.cast (R := Int) j).toNat DV.nilp).cells.getD 3 DV.nilp), RV.d (DV.lst 3 (List.map vD y.4) false)), (RV.d (DV.bool !decide (unR (rD y.n) = unR (rD x.o))), RV.d (DV.bool true)), (RV.d (DV.lst 0 [] true), RV.d (DV.lst 4 [] false))] rfl (by kernel_rfl : runEnd (cfB ts7) true _ 1000 0 _ _ (mg1 M all l (i : Int)) = some (RV.tup [RV.d (DV.lst 4 [] false), RV.d (DV.int Go.IntKind.i64 (220))], [], _, _)) (by refine ⟨?_, ?_, ?_, ?_, ?_, ?_, ?_, ?_, ?_, trivial⟩ <;> (first | exact hb1 | exact isC_chD hxo | exact hmx | exact hkeys | exact by1 | exact by2 | exact by3 | exact ok_n hyo | exact ok_o hxo)) (by refine ⟨?_, ?_, ?_, ?_, ?_, ?_, ?_, ?_, trivial⟩ <;> (first | exact le_bool hb3 | exact hb2 | exact hon | exact hg2 | exact le_bool g1 | exact by4 | exact hsame | exact nil_leM)) ⟨rfl, rfl⟩
    · have e : i = L.length := by omega
      rw [e, List.drop_eq_nil_of_le (Nat.le_refl _)] at hfold
      simp only [mFold] at hfold
      have hR : mrgC L = (Srt.isort cmpC (live A), 0) := by unfold mrgC; rw [← hfold]
      show WK Try.prog 0 _ _ (Ends (Try.f52.results.toList) (.tup [.d (chL (mrgC L).1), .d (.int .i64 (mrgC L).2)]))
      rw [hR]
      have hlv : ∀ y ∈ live A, y ∈ A := fun y hy => (List.mem_filter.1 hy).1
      have h1 : (A.map chD).all isC = true := all_isC (fun y hy => (hA y hy).1)
      have h2 : decide ((A.map chD).length ≤ 65536) = true := decide_eq_true (by rw [List.length_map]; omega)
      have h3 : ((live ((A.map chD).map toChg)).map chD).all isC = true := by rw [unL_map]; exact all_isC (fun y hy => (hA y (hlv y hy)).1)
      have h4 : decide (((live ((A.map chD).map toChg)).map chD).length ≤ 65536) = true := decide_eq_true (by
        rw [unL_map, List.length_map]
        have : (live A).length ≤ A.length := List.length_filter_le _ _
        omega)
      have h5 : distB (((live ((A.map chD).map toChg)).map chD).map toChg) = true := by
        rw [unL_map, unL_map]
        exact distB_nokey (fun y hy => keyed_row (hA y (hlv y hy)).2) (nokey_filter _ hnk)
      have h6 : (Srt.isort cmpC (((live ((A.map chD).map toChg)).map chD).map toChg)).map chD = (Srt.isort cmpC (live A)).map chD := by rw [unL_map, unL_map]
      have hf : decide ((Nat.cast (R := Int) i) < (Nat.cast (R := Int) (L.map chD).length)) = false := decide_eq_false (by rw [List.length_map]; omega)
      obtain ⟨all, hall⟩ : ∃ all, A.map chD = all := ⟨_, rfl⟩
      obtain ⟨M, hM⟩ : ∃ M, mapFrom 0 A = M := ⟨_, rfl⟩
      obtain ⟨l, hl⟩ : ∃ l, L.map chD = l := ⟨_, rfl⟩
      rw [hall] at h1 h2 h3 h4 h5 h6 ⊢
      rw [hM, hl]
      rw [hl] at hf
      clear ih hA hfold
      exact WK.fin ok 1000 0 [(15, RV.d (DV.bool false))] [true, true, all.all isC, decide (all.length ≤ 65536), true, true, (List.map chD (Plain.live (List.map toChg all))).all isC, decide ((List.map chD (Plain.live (List.map toChg all))).length ≤ 65536), Plain.distB (List.map toChg (List.map chD (Plain.live (List.map toChg all))))] [(RV.d (DV.bool (decide ((Nat.cast (R := Int) i) < (Nat.cast (R := Int) l.length)))), RV.d (DV.bool false))] rfl (by kernel_rfl : runEnd (cfB ts7) true _ 1000 0 _ _ (mg1 M all l (i : Int)) = some (RV.tup [RV.d (DV.lst 4 (List.map chD (List.foldl (Srt.insE Plain.cmpC) [] (List.map toChg (List.map chD (Plain.live (List.map toChg all)))))) false), RV.d (DV.int Go.IntKind.i64 (0))], [], _, _)) (by refine ⟨?_, ?_, ?_, ?_, ?_, ?_, ?_, ?_, ?_, trivial⟩ <;> (first | rfl | exact h1 | exact h2 | exact h3 | exact h4 | exact h5)) ⟨(by exact le_bool hf), trivial⟩ ⟨by show RV.tup [.d (.lst 4 _ false), _] = RV.tup [.d (.lst 4 _ false), _]; rw [← h6]; rfl, rfl⟩
  obtain ⟨l, hl⟩ : ∃ l, L.map chD = l := ⟨_, rfl⟩
  show WK Try.prog 0 _ (ini 57 [.d (.lst 4 (L.map chD) false)] []).den _
  rw [hl] at hloop ⊢
  refine WK.segA ok 1000 0 [] [(5, 250, chT, 4)] [4, 5, 12, 13, 14] [] [] rfl (by kernel_rfl : runSegA (cfB ts7) 1000 0 _ _ _ _ (ini 57 [.d (.lst 4 l false)] []) = some (stackAt mgC 0, mg1 [] [] l 0, _, _)) trivial trivial ?_
  exact hloop
end Go.Proofs.Ytljfolepmkcjlaa
