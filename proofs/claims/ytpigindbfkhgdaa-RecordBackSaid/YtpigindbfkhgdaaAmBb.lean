/-
  RecordBack, run.
-/
import Derived.Test.YtpigindbfkhgdaaAmBk
namespace Go.Proofs.Ytpigindbfkhgdaa
open Go.RowKit Plain Am IntWalk
set_option maxRecDepth 100000

noncomputable abbrev bkB : Code := (Try.f6.body).getD .skip
noncomputable abbrev bkR := Try.f6.results.toList
def bkI (a b : List Val) (s : Bs) : ESt := ini 95 [.d (.lst 3 (a.map vD) false), .d (.lst 3 (b.map vD) false), .d (.str s)] []
def cV (x : List Val) : Bool := (x.map vD).all isVal
def cK (x : List Val) : Bool := okRow (x.map vD)
def eGr (x : List Val) (b : Bool) : RV × RV := (.d (.bool (greatV (toRow (x.map vD)))), .d (.bool b))
def eLen (s : Bs) (b : Bool) : RV × RV := (.d (.bool (decide ((8192 : Int) < (s.length : Int)))), .d (.bool b))
def eOk (x : List Val) (b : Bool) : RV × RV := (.d (.bool ((putRow (toRow (x.map vD))).2 == 0)), .d (.bool b))
def eTk (s : Bs) (x : List Val) (n : Int) : RV × RV := (.d (.tup [.lst 3 (((takeRow s).getD []).map vD) false, .int .i64 (if takeRow s = none then 7 else 0)]), .d (.tup [.lst 3 (x.map vD) false, .int .i64 n]))
def eSm (x : List Val) : RV × RV := (.d (.bool (decide (toRow (x.map vD) = toRow (x.map vD)))), .d (.bool true))
def eHp (a b : List Val) (h : Bool) : RV × RV := (.d (.bool (Lib.hasPrefix (putRow (toRow (b.map vD))).1 (putRow (toRow (a.map vD))).1)), .d (.bool h))
def eNe (a b : List Val) : RV × RV := (.d (.bool (!((putRow (toRow (a.map vD))).1 == (putRow (toRow (b.map vD))).1))), .d (.bool false))
def ePt (l : List Val) (s : Bs) : RV × RV := (.d (.tup [.str (putRow (toRow (l.map vD))).1, .int .i64 (putRow (toRow (l.map vD))).2]), .d (.tup [.str s, .int .i64 0]))
def cT (s : Bs) : Bool := decide (s.length ≤ 1048576)

theorem pre_eq {a b : List Val} (ha : (putRow a).2 = 0) (hb : (putRow b).2 = 0) (wa : ∀ v ∈ a, v.wf) (wb : ∀ v ∈ b, v.wf) (h : Lib.hasPrefix (putRow b).1 (putRow a).1 = true) : (putRow a).1 = (putRow b).1 := by
  exact putRow_prefix ha hb wa wb (List.isPrefixOf_iff_prefix.1 h)

theorem back_c (a b : List Val) (s : Bs) (ha : ∀ v ∈ a, v.wf) (hb : ∀ v ∈ b, v.wf) : C Try.prog 6 [.d (.lst 3 (a.map vD) false), .d (.lst 3 (b.map vD) false), .d (.str s)] [] (fun r o => r = .d (.bool true) ∧ o = []) := by
  have ok := cfT_ok tab2_ok
  refine C_of_run (fn := Try.f6) (body := bkB) true (by kernel_rfl) (by kernel_rfl) (by kernel_rfl) ?_
  have va : cV a = true := all_isVal ha
  have vb : cV b = true := all_isVal hb
  by_cases hga : greatV a = true
  · exact WK.fin ok 1000 0 [(19, .d (.bool true))] [cV a, true] [eGr a true] rfl (by kernel_rfl : runEnd cf2 true bkR 1000 0 _ _ (bkI a b s) = some (.d (.bool true), [], _, _)) ⟨va, rfl, trivial⟩ ⟨le_bool (by rw [toRow_map, hga]), trivial⟩ ⟨rfl, rfl⟩
  have hga : greatV a = false := by simpa using hga
  have g1 : RVle (eGr a false).1 (eGr a false).2 := le_bool (by rw [toRow_map, hga])
  by_cases hgb : greatV b = true
  · exact WK.fin ok 1000 0 [(19, .d (.bool false)), (23, .d (.bool true))] [cV a, true, cV b, true] [eGr a false, eGr b true] rfl (by kernel_rfl : runEnd cf2 true bkR 1000 0 _ _ (bkI a b s) = some (.d (.bool true), [], _, _)) ⟨va, rfl, vb, rfl, trivial⟩ ⟨g1, le_bool (by rw [toRow_map, hgb]), trivial⟩ ⟨rfl, rfl⟩
  have hgb : greatV b = false := by simpa using hgb
  have g2 : RVle (eGr b false).1 (eGr b false).2 := le_bool (by rw [toRow_map, hgb])
  by_cases hs : 8192 < s.length
  · exact WK.fin ok 1000 0 [(19, .d (.bool false)), (23, .d (.bool false)), (27, .d (.bool true))] [cV a, true, cV b, true] [eGr a false, eGr b false, eLen s true] rfl (by kernel_rfl : runEnd cf2 true bkR 1000 0 _ _ (bkI a b s) = some (.d (.bool true), [], _, _)) ⟨va, rfl, vb, rfl, trivial⟩ ⟨g1, g2, le_bool (by simp; omega), trivial⟩ ⟨rfl, rfl⟩
  have g3 : RVle (eLen s false).1 (eLen s false).2 := le_bool (by simp; omega)
  have la := great_small hga
  have lb := great_small hgb
  have ka : cK a = true := okRow_map (by omega) ha
  have kb : cK b = true := okRow_map (by omega) hb
  have ts : cT s = true := by simp only [cT, decide_eq_true_eq]; omega
  have fin : ∀ (n : Int) (l : List Val), takeRow s = (if n = 0 then some l else none) → (n = 7 ∧ l = [] ∨ n = 0 ∧ cK l = true ∧ putRow l = (s, 0)) → RVle (eTk s l n).1 (eTk s l n).2 := by
    intro n l h h2
    refine .of_eq ?_
    rcases h2 with ⟨rfl, rfl⟩ | ⟨rfl, _, _⟩
    · simp [eTk, h]
    · simp [eTk, h]
  cases ht : takeRow s with
  | none =>
    have u1 := fin 7 [] (by simpa using ht) (.inl ⟨rfl, rfl⟩)
    by_cases hea : (putRow a).2 = 0
    · have g4 : RVle (eOk a true).1 (eOk a true).2 := le_bool (by rw [toRow_map, hea]; rfl)
      obtain ⟨w1, w2, w3⟩ := putRow_ok hea
      have ta : cT (putRow (toRow (a.map vD))).1 = true := by simp only [cT, decide_eq_true_eq]; rw [toRow_map, w3]; omega
      have t1 : RVle (eTk (putRow (toRow (a.map vD))).1 a 0).1 (eTk (putRow (toRow (a.map vD))).1 a 0).2 := .of_eq (by simp only [eTk]; rw [toRow_map, takeRow_put hea ha]; rfl)
      have t2 : RVle (eSm a).1 (eSm a).2 := le_bool (by simp)
      by_cases heb : (putRow b).2 = 0
      · have g5 : RVle (eOk b true).1 (eOk b true).2 := le_bool (by rw [toRow_map, heb]; rfl)
        cases hp : Lib.hasPrefix (putRow b).1 (putRow a).1 with
        | true =>
          have h1 : RVle (eHp a b true).1 (eHp a b true).2 := le_bool (by rw [toRow_map, toRow_map, hp])
          have hpe : (putRow a).1 = (putRow b).1 := pre_eq hea heb ha hb hp
          have h2 : RVle (eNe a b).1 (eNe a b).2 := le_bool (by rw [toRow_map, toRow_map, hpe]; simp)
          exact WK.fin ok 1000 0 [(19, .d (.bool false)), (23, .d (.bool false)), (27, .d (.bool false)), (39, .d (.bool true)), (42, .d (.tup [.lst 3 (a.map vD) false, .int .i64 0])), (50, .d (.bool true)), (55, .d (.bool true)), (58, .d (.bool true)), (63, .d (.bool false)), (67, .d (.tup [.lst 3 [] false, .int .i64 7]))] [cV a, true, cV b, true, cK a, true, cK b, true, cT (putRow (toRow (a.map vD))).1, cK a, cK a, cT s, cK [], true] [eGr a false, eGr b false, eLen s false, eOk a true, eTk (putRow (toRow (a.map vD))).1 a 0, eSm a, eOk b true, eHp a b true, eNe a b, eTk s [] 7] rfl (by kernel_rfl : runEnd cf2 true bkR 1000 0 _ _ (bkI a b s) = some (.d (.bool true), [], _, _)) ⟨va, rfl, vb, rfl, ka, rfl, kb, rfl, ta, ka, ka, ts, rfl, rfl, trivial⟩ ⟨g1, g2, g3, g4, t1, t2, g5, h1, h2, u1, trivial⟩ ⟨rfl, rfl⟩
        | false =>
          have h1 : RVle (eHp a b false).1 (eHp a b false).2 := le_bool (by rw [toRow_map, toRow_map, hp])
          exact WK.fin ok 1000 0 [(19, .d (.bool false)), (23, .d (.bool false)), (27, .d (.bool false)), (39, .d (.bool true)), (42, .d (.tup [.lst 3 (a.map vD) false, .int .i64 0])), (50, .d (.bool true)), (55, .d (.bool true)), (58, .d (.bool false)), (67, .d (.tup [.lst 3 [] false, .int .i64 7]))] [cV a, true, cV b, true, cK a, true, cK b, true, cT (putRow (toRow (a.map vD))).1, cK a, cK a, cT s, cK [], true] [eGr a false, eGr b false, eLen s false, eOk a true, eTk (putRow (toRow (a.map vD))).1 a 0, eSm a, eOk b true, eHp a b false, eTk s [] 7] rfl (by kernel_rfl : runEnd cf2 true bkR 1000 0 _ _ (bkI a b s) = some (.d (.bool true), [], _, _)) ⟨va, rfl, vb, rfl, ka, rfl, kb, rfl, ta, ka, ka, ts, rfl, rfl, trivial⟩ ⟨g1, g2, g3, g4, t1, t2, g5, h1, u1, trivial⟩ ⟨rfl, rfl⟩
      · have g5 : RVle (eOk b false).1 (eOk b false).2 := le_bool (by rw [toRow_map]; simpa using heb)
        exact WK.fin ok 1000 0 [(19, .d (.bool false)), (23, .d (.bool false)), (27, .d (.bool false)), (39, .d (.bool true)), (42, .d (.tup [.lst 3 (a.map vD) false, .int .i64 0])), (50, .d (.bool true)), (55, .d (.bool false)), (67, .d (.tup [.lst 3 [] false, .int .i64 7]))] [cV a, true, cV b, true, cK a, true, cK b, true, cT (putRow (toRow (a.map vD))).1, cK a, cK a, cT s, cK [], true] [eGr a false, eGr b false, eLen s false, eOk a true, eTk (putRow (toRow (a.map vD))).1 a 0, eSm a, eOk b false, eTk s [] 7] rfl (by kernel_rfl : runEnd cf2 true bkR 1000 0 _ _ (bkI a b s) = some (.d (.bool true), [], _, _)) ⟨va, rfl, vb, rfl, ka, rfl, kb, rfl, ta, ka, ka, ts, rfl, rfl, trivial⟩ ⟨g1, g2, g3, g4, t1, t2, g5, u1, trivial⟩ ⟨rfl, rfl⟩
    · have g4 : RVle (eOk a false).1 (eOk a false).2 := le_bool (by rw [toRow_map]; simpa using hea)
      exact WK.fin ok 1000 0 [(19, .d (.bool false)), (23, .d (.bool false)), (27, .d (.bool false)), (39, .d (.bool false)), (67, .d (.tup [.lst 3 [] false, .int .i64 7]))] [cV a, true, cV b, true, cK a, true, cK b, true, cT s, cK [], true] [eGr a false, eGr b false, eLen s false, eOk a false, eTk s [] 7] rfl (by kernel_rfl : runEnd cf2 true bkR 1000 0 _ _ (bkI a b s) = some (.d (.bool true), [], _, _)) ⟨va, rfl, vb, rfl, ka, rfl, kb, rfl, ts, rfl, rfl, trivial⟩ ⟨g1, g2, g3, g4, u1, trivial⟩ ⟨rfl, rfl⟩
  | some l =>
    obtain ⟨s1, s2⟩ := takeRow_spec ht
    have kl : cK l = true := takeRow_okRow ht
    have u1 := fin 0 l (by simpa using ht) (.inr ⟨rfl, kl, s1⟩)
    have u2 : RVle (ePt l s).1 (ePt l s).2 := .of_eq (by simp only [ePt]; rw [toRow_map, s1])
    have u3 : RVle (.d (.bool (s == s))) (.d (.bool true)) := le_bool (by simp)
    by_cases hea : (putRow a).2 = 0
    · have g4 : RVle (eOk a true).1 (eOk a true).2 := le_bool (by rw [toRow_map, hea]; rfl)
      obtain ⟨w1, w2, w3⟩ := putRow_ok hea
      have ta : cT (putRow (toRow (a.map vD))).1 = true := by simp only [cT, decide_eq_true_eq]; rw [toRow_map, w3]; omega
      have t1 : RVle (eTk (putRow (toRow (a.map vD))).1 a 0).1 (eTk (putRow (toRow (a.map vD))).1 a 0).2 := .of_eq (by simp only [eTk]; rw [toRow_map, takeRow_put hea ha]; rfl)
      have t2 : RVle (eSm a).1 (eSm a).2 := le_bool (by simp)
      by_cases heb : (putRow b).2 = 0
      · have g5 : RVle (eOk b true).1 (eOk b true).2 := le_bool (by rw [toRow_map, heb]; rfl)
        cases hp : Lib.hasPrefix (putRow b).1 (putRow a).1 with
        | true =>
          have h1 : RVle (eHp a b true).1 (eHp a b true).2 := le_bool (by rw [toRow_map, toRow_map, hp])
          have hpe : (putRow a).1 = (putRow b).1 := pre_eq hea heb ha hb hp
          have h2 : RVle (eNe a b).1 (eNe a b).2 := le_bool (by rw [toRow_map, toRow_map, hpe]; simp)
          exact WK.fin ok 1000 0 [(19, .d (.bool false)), (23, .d (.bool false)), (27, .d (.bool false)), (39, .d (.bool true)), (42, .d (.tup [.lst 3 (a.map vD) false, .int .i64 0])), (50, .d (.bool true)), (55, .d (.bool true)), (58, .d (.bool true)), (63, .d (.bool false)), (67, .d (.tup [.lst 3 (l.map vD) false, .int .i64 0])), (72, .d (.tup [.str s, .int .i64 0])), (92, .d (.bool true))] [cV a, true, cV b, true, cK a, true, cK b, true, cT (putRow (toRow (a.map vD))).1, cK a, cK a, cT s, cK l, true] [eGr a false, eGr b false, eLen s false, eOk a true, eTk (putRow (toRow (a.map vD))).1 a 0, eSm a, eOk b true, eHp a b true, eNe a b, eTk s l 0, ePt l s, (.d (.bool (s == s)), .d (.bool true))] rfl (by kernel_rfl : runEnd cf2 true bkR 1000 0 _ _ (bkI a b s) = some (.d (.bool true), [], _, _)) ⟨va, rfl, vb, rfl, ka, rfl, kb, rfl, ta, ka, ka, ts, kl, rfl, trivial⟩ ⟨g1, g2, g3, g4, t1, t2, g5, h1, h2, u1, u2, u3, trivial⟩ ⟨rfl, rfl⟩
        | false =>
          have h1 : RVle (eHp a b false).1 (eHp a b false).2 := le_bool (by rw [toRow_map, toRow_map, hp])
          exact WK.fin ok 1000 0 [(19, .d (.bool false)), (23, .d (.bool false)), (27, .d (.bool false)), (39, .d (.bool true)), (42, .d (.tup [.lst 3 (a.map vD) false, .int .i64 0])), (50, .d (.bool true)), (55, .d (.bool true)), (58, .d (.bool false)), (67, .d (.tup [.lst 3 (l.map vD) false, .int .i64 0])), (72, .d (.tup [.str s, .int .i64 0])), (92, .d (.bool true))] [cV a, true, cV b, true, cK a, true, cK b, true, cT (putRow (toRow (a.map vD))).1, cK a, cK a, cT s, cK l, true] [eGr a false, eGr b false, eLen s false, eOk a true, eTk (putRow (toRow (a.map vD))).1 a 0, eSm a, eOk b true, eHp a b false, eTk s l 0, ePt l s, (.d (.bool (s == s)), .d (.bool true))] rfl (by kernel_rfl : runEnd cf2 true bkR 1000 0 _ _ (bkI a b s) = some (.d (.bool true), [], _, _)) ⟨va, rfl, vb, rfl, ka, rfl, kb, rfl, ta, ka, ka, ts, kl, rfl, trivial⟩ ⟨g1, g2, g3, g4, t1, t2, g5, h1, u1, u2, u3, trivial⟩ ⟨rfl, rfl⟩
      · have g5 : RVle (eOk b false).1 (eOk b false).2 := le_bool (by rw [toRow_map]; simpa using heb)
        exact WK.fin ok 1000 0 [(19, .d (.bool false)), (23, .d (.bool false)), (27, .d (.bool false)), (39, .d (.bool true)), (42, .d (.tup [.lst 3 (a.map vD) false, .int .i64 0])), (50, .d (.bool true)), (55, .d (.bool false)), (67, .d (.tup [.lst 3 (l.map vD) false, .int .i64 0])), (72, .d (.tup [.str s, .int .i64 0])), (92, .d (.bool true))] [cV a, true, cV b, true, cK a, true, cK b, true, cT (putRow (toRow (a.map vD))).1, cK a, cK a, cT s, cK l, true] [eGr a false, eGr b false, eLen s false, eOk a true, eTk (putRow (toRow (a.map vD))).1 a 0, eSm a, eOk b false, eTk s l 0, ePt l s, (.d (.bool (s == s)), .d (.bool true))] rfl (by kernel_rfl : runEnd cf2 true bkR 1000 0 _ _ (bkI a b s) = some (.d (.bool true), [], _, _)) ⟨va, rfl, vb, rfl, ka, rfl, kb, rfl, ta, ka, ka, ts, kl, rfl, trivial⟩ ⟨g1, g2, g3, g4, t1, t2, g5, u1, u2, u3, trivial⟩ ⟨rfl, rfl⟩
    · have g4 : RVle (eOk a false).1 (eOk a false).2 := le_bool (by rw [toRow_map]; simpa using hea)
      exact WK.fin ok 1000 0 [(19, .d (.bool false)), (23, .d (.bool false)), (27, .d (.bool false)), (39, .d (.bool false)), (67, .d (.tup [.lst 3 (l.map vD) false, .int .i64 0])), (72, .d (.tup [.str s, .int .i64 0])), (92, .d (.bool true))] [cV a, true, cV b, true, cK a, true, cK b, true, cT s, cK l, true] [eGr a false, eGr b false, eLen s false, eOk a false, eTk s l 0, ePt l s, (.d (.bool (s == s)), .d (.bool true))] rfl (by kernel_rfl : runEnd cf2 true bkR 1000 0 _ _ (bkI a b s) = some (.d (.bool true), [], _, _)) ⟨va, rfl, vb, rfl, ka, rfl, kb, rfl, ts, kl, rfl, trivial⟩ ⟨g1, g2, g3, g4, u1, u2, u3, trivial⟩ ⟨rfl, rfl⟩
end Go.Proofs.Ytpigindbfkhgdaa
