/-
  Texts that the claim leans on, one behind the other, part 4.
-/
import Derived.Test.YtljfolepmkcjlaaXn3
import Derived.Test.YtljfolepmkcjlaaAmC
import Derived.WalkKit
import Derived.Below
import Derived.OwnWalk
import Derived.Deep.OwnRows
import Derived.Lib.SliceRun

/-
  Stable sorting, run.
-/
namespace Go.Proofs.Ytljfolepmkcjlaa
open Go.RowKit Plain Am IntWalk
set_option maxRecDepth 100000
set_option linter.unusedVariables false
set_option linter.unusedSimpArgs false

noncomputable abbrev stC : Code := bodyOf Try.f88
def st1 (l : List DV) (n a b : Int) : ESt := { n := 63, m := 1, regs := T.mk [(0, .own 0 4), (1, .d (.int .i64 n)), (2, cmpv), (6, .d (.int .i64 20)), (7, .d (.int .i64 a)), (8, .d (.int .i64 b))], objs := T.mk [(0, .arr 46 4 l)] }
def st2 (l : List DV) (n s : Int) : ESt := { n := 63, m := 1, regs := T.mk [(0, .own 0 4), (1, .d (.int .i64 n)), (2, cmpv), (6, .d (.int .i64 s))], objs := T.mk [(0, .arr 46 4 l)] }
def st3 (l : List DV) (n s a b : Int) : ESt := { n := 63, m := 1, regs := T.mk [(0, .own 0 4), (1, .d (.int .i64 n)), (2, cmpv), (6, .d (.int .i64 s)), (7, .d (.int .i64 a)), (8, .d (.int .i64 b))], objs := T.mk [(0, .arr 46 4 l)] }
def insL (els : List DV) (p q : Nat) : List DV := els.take p ++ ((Srt.isort cmpC ((part els p q).map toChg)).map chD ++ els.drop q)
def insE2 : Ent := fun a o => match a, o with
  | [.own 0 4, .d (.int .i64 p), .d (.int .i64 q), .clo (.func f) [] []], [.arr T 4 els] =>
    some (.tup [], [.arr T 4 (insL els p.toNat q.toNat)], [Nat.beq T chT, Nat.beq f 39, els.all isC, decide (0 ≤ p), decide (p ≤ q), decide (q ≤ els.length), decide (els.length ≤ 65536)])
  | _, _ => none
noncomputable def ts4 : List (Nat × Ent) := [(100, insE2), (101, symE 65537)]
/-- sorted blocks of one length, one behind the other -/
inductive Blks (s : Nat) : List Chg → Prop
  | nil : Blks s []
  | cons {X Q : List Chg} (hl : X.length = s) (hs : Srt.srtB cmpC X = true) (hq : Blks s Q) : Blks s (X ++ Q)
theorem Blks.snoc {s : Nat} {P X : List Chg} (h : Blks s P) (hl : X.length = s) (hs : Srt.srtB cmpC X = true) : Blks s (P ++ X) := by
  induction h with
  | nil => have := Blks.cons hl hs .nil; simpa using this
  | cons h1 h2 _ ih => rw [List.append_assoc]; exact .cons h1 h2 ih
theorem Blks.split {s : Nat} {Q : List Chg} (h : Blks s Q) (hn : 1 ≤ Q.length) : ∃ X Q1, Q = X ++ Q1 ∧ X.length = s ∧ Srt.srtB cmpC X = true ∧ Blks s Q1 := by
  cases h with
  | nil => simp at hn
  | cons h1 h2 h3 => exact ⟨_, _, rfl, h1, h2, h3⟩
theorem insL_eq (A U R : List Chg) {p q : Nat} (hp : p = A.length) (hq : q = p + U.length) : insL ((A ++ (U ++ R)).map chD) p q = (A ++ (Srt.isort cmpC U ++ R)).map chD := by
  unfold insL
  have h1 : part (A ++ (U ++ R)) p q = U := part_eq A U _ p q hp (by omega)
  have h3 : (A ++ (U ++ R)).drop q = R := by
    rw [← List.append_assoc]; exact List.drop_left' (by simp; omega)
  rw [part_map, unL_map, h1, ← List.map_take, ← List.map_drop, h3, List.take_left' hp.symm, List.map_append, List.map_append]
theorem ins2_ent : EntOk Try.prog 100 insE2 := ins_ent
theorem ts4_ok : EntsOk Try.prog ts4 := .cons ins2_ent (.cons (sym_ent 65537) .nil)
abbrev EndsSt (l : List DV) : SSt → Prop := EndsB (Try.f88.results.toList) l
theorem isort_len (l : List Chg) : (Srt.isort cmpC l).length = l.length := (Srt.isort_ok preC l).2.length_eq
theorem ov_dbl {s q : Nat} (h : 2 * s = q) (hb : q ≤ 1000000) : RVle (.d (.int .i64 (IntKind.i64.wrap (2 * (Nat.cast (R := Int) s))))) (.d (.int .i64 (Nat.cast (R := Int) q))) := .of_eq (by
  rw [i64_in _ (by omega)]; congr 2; omega)
theorem ov_dbl2 {s q : Nat} (h : 2 * s = q) (hb : q ≤ 1000000) : RVle (.d (.int .i64 (IntKind.i64.wrap ((Nat.cast (R := Int) s) * 2)))) (.d (.int .i64 (Nat.cast (R := Int) q))) := .of_eq (by
  rw [i64_in _ (by omega)]; congr 2; omega)
theorem ov_add20 {s q : Nat} (h : s + 20 = q) (hb : q ≤ 1000000) : RVle (.d (.int .i64 (IntKind.i64.wrap ((Nat.cast (R := Int) s) + 20)))) (.d (.int .i64 (Nat.cast (R := Int) q))) := .of_eq (by
  rw [i64_in _ (by omega)]; congr 2; omega)
theorem ov_adddbl {b s q : Nat} (h : b + 2 * s = q) (hb : q ≤ 1000000) : RVle (.d (.int .i64 (IntKind.i64.wrap ((Nat.cast (R := Int) b) + IntKind.i64.wrap (2 * (Nat.cast (R := Int) s)))))) (.d (.int .i64 (Nat.cast (R := Int) q))) := .of_eq (by
  rw [i64_in (2 * (Nat.cast (R := Int) s)) (by omega), i64_in _ (by omega)]; congr 2; omega)
set_option maxHeartbeats 4000000 in
/-- the blocks are merged in pairs -/
theorem st_merge (L0 : List Chg) (hok : okL L0) (hd : distB L0 = true) (n s : Nat) (hn : L0.length = n) (hs : 1 ≤ s) (hsn : s < n) (P Q R : List Chg) (hp : (P ++ (Q ++ R)).Perm L0) (bP : Blks (2 * s) P) (bQ : Blks s Q) (sR : Srt.srtB cmpC R = true) (lR : R.length < s)
    (hk : ∀ Q' R', (Q' ++ R').Perm L0 → Blks (2 * s) Q' → Srt.srtB cmpC R' = true → R'.length < 2 * s → WK Try.prog 1 (stackAt stC 1) (st2 ((Q' ++ R').map chD) (n : Int) ((2 * s : Nat) : Int)).den (EndsSt ((Srt.isort cmpC L0).map chD))) :
    WK Try.prog 1 (stackAt stC 2) (st3 ((P ++ (Q ++ R)).map chD) (n : Int) (s : Int) (P.length : Int) ((P.length + 2 * s : Nat) : Int)).den (EndsSt ((Srt.isort cmpC L0).map chD)) := by
  have ok := cfB_ok ts4_ok
  obtain ⟨T, hT⟩ : ∃ T, (Srt.isort cmpC L0).map chD = T := ⟨_, rfl⟩
  obtain ⟨dd, hq'⟩ : ∃ dd, 2 * s = dd := ⟨_, rfl⟩
  have hn6 : n ≤ 65536 := by have := hok.1; omega
  rw [hT] at hk ⊢
  rw [hq'] at hk bP ⊢
  have key := WK.rec' (P := Try.prog) (m := 1) (k := stackAt stC 2) (Q := EndsSt T) (fun (q : List Chg × List Chg) => st3 ((q.1 ++ (q.2 ++ R)).map chD) (n : Int) (s : Int) (q.1.length : Int) ((q.1.length + dd : Nat) : Int)) (fun q => (q.1 ++ (q.2 ++ R)).Perm L0 ∧ Blks dd q.1 ∧ Blks s q.2) (fun q => q.2.length) ?_ (P, Q) ⟨hp, bP, bQ⟩
  · exact key
  clear hp bP bQ
  rintro ⟨P, Q⟩ ⟨hp, bP, bQ⟩ ih
  simp only at hp bP bQ ih ⊢
  obtain ⟨a, ha⟩ : ∃ a, P.length = a := ⟨_, rfl⟩
  obtain ⟨b, hb⟩ : ∃ b, a + dd = b := ⟨_, rfl⟩
  obtain ⟨m, hm⟩ : ∃ m, a + s = m := ⟨_, rfl⟩
  have hlen : a + (Q.length + R.length) = n := by have := hp.length_eq; simp only [List.length_append] at this; omega
  have hokc : okL (P ++ (Q ++ R)) := okL_perm hok hp
  by_cases hbn : b ≤ n
  · obtain ⟨X, Q1, rfl, lX, sX, bQ1⟩ := bQ.split (by omega)
    simp only [List.length_append] at hlen
    obtain ⟨Y, Q2, rfl, lY, sY, bQ2⟩ := bQ1.split (by omega)
    simp only [List.length_append] at hlen
    have e0 : P ++ (X ++ (Y ++ Q2) ++ R) = P ++ (X ++ (Y ++ (Q2 ++ R))) := by simp
    have ml := Srt.mrg_length cmpC X Y
    have e1 : symL ((P ++ (X ++ (Y ++ (Q2 ++ R)))).map chD) a m b = ((P ++ Srt.mrg cmpC X Y) ++ (Q2 ++ R)).map chD := by
      rw [symL_eq P X Y (Q2 ++ R) ha.symm (by omega) (by omega)]; simp
    have f1 : srtP ((P ++ (X ++ (Y ++ (Q2 ++ R)))).map chD) a m = true := by rw [srtP_eq P X _ ha.symm (by omega)]; exact sX
    have f2 : srtP ((P ++ (X ++ (Y ++ (Q2 ++ R)))).map chD) m b = true := by
      have := srtP_eq (P ++ X) Y (Q2 ++ R) (p := m) (m := b) (by simp only [List.length_append]; omega) (by omega)
      rw [List.append_assoc] at this
      rw [this]; exact sY
    have hw := ih (P ++ Srt.mrg cmpC X Y, Q2) ⟨by
      refine List.Perm.trans ?_ hp
      rw [e0, List.append_assoc]
      refine List.Perm.append_left _ ?_
      rw [← List.append_assoc X]
      exact (Srt.mrg_perm cmpC _ X Y (Nat.le_refl _)).append_right _, bP.snoc (by omega) (Srt.mrg_sorted preC _ X Y (Nat.le_refl _) sX sY), bQ2⟩ (by simp only [List.length_append]; omega)
    simp only [List.length_append, ml] at hw
    rw [ha, show a + (X.length + Y.length) = b by omega, ← e1] at hw
    obtain ⟨qq, hqq⟩ : ∃ qq, b + dd = qq := ⟨_, rfl⟩
    rw [hqq] at hw
    rw [e0] at hokc ⊢
    have hall := all_isC hokc.2
    have hll : ((P ++ (X ++ (Y ++ (Q2 ++ R)))).map chD).length = n := by simp only [List.length_map, List.length_append]; omega
    obtain ⟨l, hl⟩ : ∃ l, (P ++ (X ++ (Y ++ (Q2 ++ R)))).map chD = l := ⟨_, rfl⟩
    rw [hl] at hall hll hw f1 f2 ⊢
    rw [ha, hb]
    clear ih hk hp hok hokc e0 e1 hl hT
    refine WK.segA ok 1000 0 [(35, RV.d (DV.bool true)), (40, RV.d (DV.int Go.IntKind.i64 (Nat.cast (R := Int) m))), (48, RV.d (DV.int Go.IntKind.i64 (Nat.cast (R := Int) qq)))] [] [0, 1, 2, 6, 7, 8] [true, true, l.all isC, true, decide ((Nat.cast (R := Int) a) < (Nat.cast (R := Int) m)), decide ((Nat.cast (R := Int) m) < (Nat.cast (R := Int) b)), decide ((Nat.cast (R := Int) b) ≤ (Nat.cast (R := Int) l.length)), decide (l.length ≤ 65536), srtP l (Nat.cast (R := Int) a).toNat (Nat.cast (R := Int) m).toNat, srtP l (Nat.cast (R := Int) m).toNat (Nat.cast (R := Int) b).toNat, decide ((Nat.cast (R := Int) b) - (Nat.cast (R := Int) a) < Nat.cast (R := Int)  (65537))] [(RV.d (DV.bool (decide ((Nat.cast (R := Int) b) ≤ (Nat.cast (R := Int) n)))), RV.d (DV.bool true)), (RV.d (DV.int Go.IntKind.i64 (Go.IntKind.i64.wrap ((Nat.cast (R := Int) a) + (Nat.cast (R := Int) s)))), RV.d (DV.int Go.IntKind.i64 (Nat.cast (R := Int) m))), (RV.d (DV.int Go.IntKind.i64 (Go.IntKind.i64.wrap ((Nat.cast (R := Int) b) + Go.IntKind.i64.wrap (2 * (Nat.cast (R := Int) s))))), RV.d (DV.int Go.IntKind.i64 (Nat.cast (R := Int) qq)))] rfl (by kernel_rfl : runSegA (cfB ts4) 1000 0 _ _ _ _ (st3 l (n : Int) (s : Int) (a : Int) (b : Int)) = some (stackAt stC 2, st3 (symL l (Nat.cast (R := Int) a).toNat (Nat.cast (R := Int) m).toNat (Nat.cast (R := Int) b).toNat) (n : Int) (s : Int) (b : Int) (qq : Int), _, _)) (by refine ⟨?_, ?_, ?_, ?_, ?_, ?_, ?_, ?_, ?_, ?_, ?_, trivial⟩ <;> (first | rfl | exact hall | exact f1 | exact f2 | exact decide_eq_true (by omega))) (by refine ⟨?_, ?_, ?_, trivial⟩ <;> (first | exact le_bool (decide_eq_true (by omega)) | exact ov_add hm (by omega) | exact ov_adddbl (by omega) (by omega))) ?_
    simp only [Int.toNat_natCast]
    exact hw
  · have hf : decide ((Nat.cast (R := Int) b) ≤ (Nat.cast (R := Int) n)) = false := decide_eq_false (by omega)
    have hall := all_isC hokc.2
    have hll : ((P ++ (Q ++ R)).map chD).length = n := by simp only [List.length_map, List.length_append]; omega
    have hT1 : decide ((Nat.cast (R := Int) m) < (Nat.cast (R := Int) n)) = true → srtP ((P ++ (Q ++ R)).map chD) a m = true ∧ srtP ((P ++ (Q ++ R)).map chD) m n = true ∧ WK Try.prog 1 (stackAt stC 1) (st2 (symL ((P ++ (Q ++ R)).map chD) a m n) (n : Int) (dd : Int)).den (EndsSt T) := fun hc => by
      have hc' := of_decide_eq_true hc
      obtain ⟨X, Q1, rfl, lX, sX, bQ1⟩ := bQ.split (by omega)
      simp only [List.length_append] at hlen
      have hQ1 : Q1 = [] := by
        rcases Nat.eq_zero_or_pos Q1.length with h | h
        · exact List.eq_nil_of_length_eq_zero h
        · obtain ⟨Y, Q2, rfl, lY, _, _⟩ := bQ1.split h
          simp only [List.length_append] at hlen; omega
      subst hQ1
      have ml := Srt.mrg_length cmpC X R
      simp only [List.length_nil] at hlen
      simp only [List.append_nil] at hp ⊢
      have e1 : symL ((P ++ (X ++ R)).map chD) a m n = (P ++ Srt.mrg cmpC X R).map chD := by
        have := symL_eq P X R [] ha.symm (show m = a + X.length by omega) (q := n) (by omega)
        simpa using this
      refine ⟨by rw [srtP_eq P X R ha.symm (by omega)]; exact sX, ?_, ?_⟩
      · have := srtP_eq (P ++ X) R [] (p := m) (m := n) (by simp only [List.length_append]; omega) (by omega)
        rw [List.append_nil, List.append_assoc] at this
        rw [this]; exact sR
      · rw [e1]
        exact hk P _ ((List.Perm.append_left _ (Srt.mrg_perm cmpC _ X R (Nat.le_refl _))).trans hp) bP (Srt.mrg_sorted preC _ X R (Nat.le_refl _) sX sR) (by omega)
    have hT2 : decide ((Nat.cast (R := Int) m) < (Nat.cast (R := Int) n)) = false → WK Try.prog 1 (stackAt stC 1) (st2 ((P ++ (Q ++ R)).map chD) (n : Int) (dd : Int)).den (EndsSt T) := fun hc => by
      have hc' := of_decide_eq_false hc
      rcases Nat.eq_zero_or_pos Q.length with h | h
      · have := List.eq_nil_of_length_eq_zero h
        subst this
        exact hk P R hp bP sR (by omega)
      · obtain ⟨X, Q1, rfl, lX, sX, bQ1⟩ := bQ.split h
        simp only [List.length_append] at hlen
        have hQ1 := List.eq_nil_of_length_eq_zero (l := Q1) (by omega)
        have hR := List.eq_nil_of_length_eq_zero (l := R) (by omega)
        subst hQ1 hR
        simp only [List.append_nil] at hp ⊢
        have := hk P X hp bP sX (by omega)
        exact this
    obtain ⟨l, hl⟩ : ∃ l, (P ++ (Q ++ R)).map chD = l := ⟨_, rfl⟩
    rw [hl] at hall hll hT1 hT2 ⊢
    rw [ha, hb]
    have hm6 : m ≤ 1000000 := by omega
    have hq6 : dd ≤ 1000000 := by omega
    have hs2 : 2 * s = dd := hq'
    have hlt : decide ((Nat.cast (R := Int) m) < (Nat.cast (R := Int) n)) = true → a < m ∧ m < n := fun hc => by have := of_decide_eq_true hc; omega
    clear ih hk hp hok hokc hl hT bP bQ
    rcases Bool.eq_false_or_eq_true (decide ((Nat.cast (R := Int) m) < (Nat.cast (R := Int) n)) : Bool) with h54 | h54
    · skip
      refine WK.segA ok 1000 0 [(35, RV.d (DV.bool false)), (51, RV.d (DV.int Go.IntKind.i64 (Nat.cast (R := Int) m))), (62, RV.d (DV.int Go.IntKind.i64 (Nat.cast (R := Int) dd))), (54, RV.d (DV.bool true))] [] [0, 1, 2, 6] [true, true, l.all isC, true, decide ((Nat.cast (R := Int) a) < (Nat.cast (R := Int) m)), decide ((Nat.cast (R := Int) m) < (Nat.cast (R := Int) n)), decide ((Nat.cast (R := Int) n) ≤ (Nat.cast (R := Int) l.length)), decide (l.length ≤ 65536), srtP l (Nat.cast (R := Int) a).toNat (Nat.cast (R := Int) m).toNat, srtP l (Nat.cast (R := Int) m).toNat (Nat.cast (R := Int) n).toNat, decide ((Nat.cast (R := Int) n) - (Nat.cast (R := Int) a) < Nat.cast (R := Int)  (65537))] [(RV.d (DV.bool (decide ((Nat.cast (R := Int) b) ≤ (Nat.cast (R := Int) n)))), RV.d (DV.bool false)), (RV.d (DV.int Go.IntKind.i64 (Go.IntKind.i64.wrap ((Nat.cast (R := Int) a) + (Nat.cast (R := Int) s)))), RV.d (DV.int Go.IntKind.i64 (Nat.cast (R := Int) m))), (RV.d (DV.bool (decide ((Nat.cast (R := Int) m) < (Nat.cast (R := Int) n)))), RV.d (DV.bool true)), (RV.d (DV.int Go.IntKind.i64 (Go.IntKind.i64.wrap ((Nat.cast (R := Int) s) * 2))), RV.d (DV.int Go.IntKind.i64 (Nat.cast (R := Int) dd)))] rfl (by kernel_rfl : runSegA (cfB ts4) 1000 0 _ _ _ _ (st3 l (n : Int) (s : Int) (a : Int) (b : Int)) = some (stackAt stC 1, st2 (symL l (Nat.cast (R := Int) a).toNat (Nat.cast (R := Int) m).toNat (Nat.cast (R := Int) n).toNat) (n : Int) (dd : Int), _, _)) (by refine ⟨?_, ?_, ?_, ?_, ?_, ?_, ?_, ?_, ?_, ?_, ?_, trivial⟩ <;> (first | rfl | exact hall | exact (hT1 h54).1 | exact (hT1 h54).2.1 | (have := hlt h54; exact decide_eq_true (by omega)) | exact decide_eq_true (by omega))) (by refine ⟨?_, ?_, le_bool h54, ?_, trivial⟩ <;> (first | exact le_bool hf | exact ov_add hm hm6 | exact ov_dbl2 hs2 hq6)) ?_
      try simp only [Int.toNat_natCast]
      first | exact (hT1 h54).2.2 | exact hT2 h54
    · skip
      refine WK.segA ok 1000 0 [(35, RV.d (DV.bool false)), (51, RV.d (DV.int Go.IntKind.i64 (Nat.cast (R := Int) m))), (62, RV.d (DV.int Go.IntKind.i64 (Nat.cast (R := Int) dd))), (54, RV.d (DV.bool false))] [] [0, 1, 2, 6] [] [(RV.d (DV.bool (decide ((Nat.cast (R := Int) b) ≤ (Nat.cast (R := Int) n)))), RV.d (DV.bool false)), (RV.d (DV.int Go.IntKind.i64 (Go.IntKind.i64.wrap ((Nat.cast (R := Int) a) + (Nat.cast (R := Int) s)))), RV.d (DV.int Go.IntKind.i64 (Nat.cast (R := Int) m))), (RV.d (DV.bool (decide ((Nat.cast (R := Int) m) < (Nat.cast (R := Int) n)))), RV.d (DV.bool false)), (RV.d (DV.int Go.IntKind.i64 (Go.IntKind.i64.wrap ((Nat.cast (R := Int) s) * 2))), RV.d (DV.int Go.IntKind.i64 (Nat.cast (R := Int) dd)))] rfl (by kernel_rfl : runSegA (cfB ts4) 1000 0 _ _ _ _ (st3 l (n : Int) (s : Int) (a : Int) (b : Int)) = some (stackAt stC 1, st2 l (n : Int) (dd : Int), _, _)) trivial (by refine ⟨?_, ?_, le_bool h54, ?_, trivial⟩ <;> (first | exact le_bool hf | exact ov_add hm hm6 | exact ov_dbl2 hs2 hq6)) ?_
      try simp only [Int.toNat_natCast]
      first | exact (hT1 h54).2.2 | exact hT2 h54
set_option maxHeartbeats 4000000 in
theorem st_outer (L0 : List Chg) (hok : okL L0) (hd : distB L0 = true) (n s : Nat) (hn : L0.length = n) (hs : 1 ≤ s) (hs6 : s ≤ 200000) (Q R : List Chg) (hp : (Q ++ R).Perm L0) (bQ : Blks s Q) (sR : Srt.srtB cmpC R = true) (lR : R.length < s) :
    WK Try.prog 1 (stackAt stC 1) (st2 ((Q ++ R).map chD) (n : Int) (s : Int)).den (EndsSt ((Srt.isort cmpC L0).map chD)) := by
  have ok := cfB_ok ts4_ok
  have hn6 : n ≤ 65536 := by have := hok.1; omega
  have key := WK.rec' (P := Try.prog) (m := 1) (k := stackAt stC 1) (Q := EndsSt ((Srt.isort cmpC L0).map chD)) (fun (q : Nat × List Chg × List Chg) => st2 ((q.2.1 ++ q.2.2).map chD) (n : Int) (q.1 : Int)) (fun q => 1 ≤ q.1 ∧ q.1 ≤ 200000 ∧ (q.2.1 ++ q.2.2).Perm L0 ∧ Blks q.1 q.2.1 ∧ Srt.srtB cmpC q.2.2 = true ∧ q.2.2.length < q.1) (fun q => n - q.1) ?_ (s, Q, R) ⟨hs, hs6, hp, bQ, sR, lR⟩
  · exact key
  clear hs hs6 hp bQ sR lR
  rintro ⟨s, Q, R⟩ ⟨hs, hs6, hp, bQ, sR, lR⟩ ih
  simp only at hs hs6 hp bQ sR lR ih ⊢
  have hlen : Q.length + R.length = n := by have := hp.length_eq; simp only [List.length_append] at this; omega
  have hT1 : decide ((Nat.cast (R := Int) s) < (Nat.cast (R := Int) n)) = true → _ := fun hc => by
    have hc' := of_decide_eq_true hc
    exact st_merge L0 hok hd n s hn hs (by omega) [] Q R hp .nil bQ sR lR (fun Q' R' g1 g2 g3 g4 => ih (2 * s, Q', R') ⟨by simp only; omega, by simp only; omega, g1, g2, g3, g4⟩ (by simp only; omega))
  have hT2 : decide ((Nat.cast (R := Int) s) < (Nat.cast (R := Int) n)) = false → (Q ++ R).map chD = (Srt.isort cmpC L0).map chD := fun hc => by
    have hc' := of_decide_eq_false hc
    congr 1
    refine isort_uniq ?_ hp hd
    rcases Nat.eq_zero_or_pos Q.length with h | h
    · rw [List.eq_nil_of_length_eq_zero h]; exact sR
    · obtain ⟨X, Q1, rfl, lX, sX, bQ1⟩ := bQ.split h
      simp only [List.length_append] at hlen
      have hQ1 := List.eq_nil_of_length_eq_zero (l := Q1) (by omega)
      have hR := List.eq_nil_of_length_eq_zero (l := R) (by omega)
      subst hQ1 hR
      simpa using sX
  obtain ⟨dd, hq'⟩ : ∃ dd, 2 * s = dd := ⟨_, rfl⟩
  simp only [List.nil_append, List.length_nil, Nat.zero_add, hq'] at hT1
  obtain ⟨T, hT⟩ : ∃ T, (Srt.isort cmpC L0).map chD = T := ⟨_, rfl⟩
  obtain ⟨l, hl⟩ : ∃ l, (Q ++ R).map chD = l := ⟨_, rfl⟩
  rw [hl, hT] at hT1 hT2 ⊢
  rcases Bool.eq_false_or_eq_true (decide ((Nat.cast (R := Int) s) < (Nat.cast (R := Int) n)) : Bool) with h30 | h30
  · skip
    refine WK.segA ok 1000 0 [(32, RV.d (DV.int Go.IntKind.i64 (Nat.cast (R := Int) dd))), (30, RV.d (DV.bool true))] [] [0, 1, 2, 6, 7, 8] [] [(RV.d (DV.bool (decide ((Nat.cast (R := Int) s) < (Nat.cast (R := Int) n)))), RV.d (DV.bool true)), (RV.d (DV.int Go.IntKind.i64 (Go.IntKind.i64.wrap (2 * (Nat.cast (R := Int) s)))), RV.d (DV.int Go.IntKind.i64 (Nat.cast (R := Int) dd)))] rfl (by kernel_rfl : runSegA (cfB ts4) 1000 0 _ _ _ _ (st2 l (n : Int) (s : Int)) = some (stackAt stC 2, st3 l (n : Int) (s : Int) 0 (dd : Int), _, _)) trivial ⟨le_bool h30, (by exact ov_dbl hq' (by omega)), trivial⟩ ?_
    exact hT1 h30
  · skip
    exact WK.fin ok 1000 0 [(32, RV.d (DV.int Go.IntKind.i64 (Nat.cast (R := Int) dd))), (30, RV.d (DV.bool false))] [] [(RV.d (DV.bool (decide ((Nat.cast (R := Int) s) < (Nat.cast (R := Int) n)))), RV.d (DV.bool false))] rfl (by kernel_rfl : runEnd (cfB ts4) false _ 1000 0 _ _ (st2 l (n : Int) (s : Int)) = some (RV.tup [], [PObj.arr 46 4 l], _, _)) trivial ⟨le_bool h30, trivial⟩ ⟨rfl, by rw [hT2 h30]; rfl⟩
set_option maxHeartbeats 4000000 in
theorem stable_c (L0 : List Chg) (hok : okL L0) (hd : distB L0 = true) :
    C Try.prog 88 [.own 0 4, .d (.int .i64 (L0.length : Int)), cmpv] (arC (L0.map chD)) (fun r o => r = .tup [] ∧ o = arC ((Srt.isort cmpC L0).map chD)) := by
  have ok := cfB_ok ts4_ok
  refine C_of_run (fn := Try.f88) (body := stC) false (by kernel_rfl) (by kernel_rfl) (by kernel_rfl) ?_
  obtain ⟨n, hn⟩ : ∃ n, L0.length = n := ⟨_, rfl⟩
  have hn6 : n ≤ 65536 := by have := hok.1; omega
  obtain ⟨T, hT⟩ : ∃ T, (Srt.isort cmpC L0).map chD = T := ⟨_, rfl⟩
  have hloop : WK Try.prog 1 (stackAt stC 0) (st1 (L0.map chD) (n : Int) 0 20).den (EndsSt T) := by
    have key := WK.rec' (P := Try.prog) (m := 1) (k := stackAt stC 0) (Q := EndsSt T) (fun (q : List Chg × List Chg) => st1 ((q.1 ++ q.2).map chD) (n : Int) (q.1.length : Int) ((q.1.length + 20 : Nat) : Int)) (fun q => (q.1 ++ q.2).Perm L0 ∧ Blks 20 q.1) (fun q => q.2.length) ?_ ([], L0) ⟨.refl _, .nil⟩
    · exact key
    rintro ⟨P, R⟩ ⟨hp, bP⟩ ih
    simp only at hp bP ih ⊢
    obtain ⟨a, ha⟩ : ∃ a, P.length = a := ⟨_, rfl⟩
    obtain ⟨b, hb⟩ : ∃ b, a + 20 = b := ⟨_, rfl⟩
    have hlen : a + R.length = n := by have := hp.length_eq; simp only [List.length_append] at this; omega
    have hokc : okL (P ++ R) := okL_perm hok hp
    have hall := all_isC hokc.2
    have hll : ((P ++ R).map chD).length = n := by simp only [List.length_map, List.length_append]; omega
    by_cases hbn : b ≤ n
    · have lt : (R.take 20).length = 20 := by rw [List.length_take]; omega
      have il := isort_len (R.take 20)
      have e1 : insL ((P ++ R).map chD) a b = ((P ++ Srt.isort cmpC (R.take 20)) ++ R.drop 20).map chD := by
        have := insL_eq P (R.take 20) (R.drop 20) (p := a) (q := b) ha.symm (by omega)
        rw [List.take_append_drop] at this
        rw [this]; simp
      have hw := ih (P ++ Srt.isort cmpC (R.take 20), R.drop 20) ⟨by
        refine List.Perm.trans ?_ hp
        rw [List.append_assoc]
        refine List.Perm.append_left _ ?_
        refine ((Srt.isort_ok preC (R.take 20)).2.append_right _).trans ?_
        rw [List.take_append_drop], bP.snoc (by omega) (Srt.isort_ok preC (R.take 20)).1⟩ (by simp only [List.length_drop]; omega)
      simp only [List.length_append, il, lt] at hw
      rw [ha, hb, ← e1] at hw
      obtain ⟨q, hq⟩ : ∃ q, b + 20 = q := ⟨_, rfl⟩
      rw [hq] at hw
      obtain ⟨l, hl⟩ : ∃ l, (P ++ R).map chD = l := ⟨_, rfl⟩
      rw [hl] at hall hll hw ⊢
      rw [ha, hb]
      clear ih hp hok hokc e1 hl hT bP
      refine WK.segA ok 1000 0 [(13, RV.d (DV.bool true)), (22, RV.d (DV.int Go.IntKind.i64 (Nat.cast (R := Int) q)))] [] [0, 1, 2, 6, 7, 8] [true, true, l.all isC, true, decide ((Nat.cast (R := Int) a) ≤ (Nat.cast (R := Int) b)), decide ((Nat.cast (R := Int) b) ≤ (Nat.cast (R := Int) l.length)), decide (l.length ≤ 65536)] [(RV.d (DV.bool (decide ((Nat.cast (R := Int) b) ≤ (Nat.cast (R := Int) n)))), RV.d (DV.bool true)), (RV.d (DV.int Go.IntKind.i64 (Go.IntKind.i64.wrap ((Nat.cast (R := Int) b) + 20))), RV.d (DV.int Go.IntKind.i64 (Nat.cast (R := Int) q)))] rfl (by kernel_rfl : runSegA (cfB ts4) 1000 0 _ _ _ _ (st1 l (n : Int) (a : Int) (b : Int)) = some (stackAt stC 0, st1 (insL l (Nat.cast (R := Int) a).toNat (Nat.cast (R := Int) b).toNat) (n : Int) (b : Int) (q : Int), _, _)) (by refine ⟨?_, ?_, ?_, ?_, ?_, ?_, ?_, trivial⟩ <;> (first | rfl | exact hall | exact decide_eq_true (by omega))) (by refine ⟨?_, ?_, trivial⟩ <;> (first | exact le_bool (decide_eq_true (by omega)) | exact ov_add20 (by omega) (by omega))) ?_
      simp only [Int.toNat_natCast]
      exact hw
    · have il := isort_len R
      have e1 : insL ((P ++ R).map chD) a n = (P ++ Srt.isort cmpC R).map chD := by
        have := insL_eq P R [] (p := a) (q := n) ha.symm (by omega)
        simpa using this
      have hw := st_outer L0 hok hd n 20 hn (by omega) (by omega) P (Srt.isort cmpC R) ((List.Perm.append_left _ (Srt.isort_ok preC R).2).trans hp) bP (Srt.isort_ok preC R).1 (by omega)
      rw [← e1, hT] at hw
      obtain ⟨l, hl⟩ : ∃ l, (P ++ R).map chD = l := ⟨_, rfl⟩
      rw [hl] at hall hll hw ⊢
      rw [ha, hb]
      have hf : decide ((Nat.cast (R := Int) b) ≤ (Nat.cast (R := Int) n)) = false := decide_eq_false (by omega)
      clear ih hp hok hokc e1 hl hT bP
      refine WK.segA ok 1000 0 [(13, RV.d (DV.bool false))] [] [0, 1, 2, 6] [true, true, l.all isC, true, decide ((Nat.cast (R := Int) a) ≤ (Nat.cast (R := Int) n)), decide ((Nat.cast (R := Int) n) ≤ (Nat.cast (R := Int) l.length)), decide (l.length ≤ 65536)] [(RV.d (DV.bool (decide ((Nat.cast (R := Int) b) ≤ (Nat.cast (R := Int) n)))), RV.d (DV.bool false))] rfl (by kernel_rfl : runSegA (cfB ts4) 1000 0 _ _ _ _ (st1 l (n : Int) (a : Int) (b : Int)) = some (stackAt stC 1, st2 (insL l (Nat.cast (R := Int) a).toNat (Nat.cast (R := Int) n).toNat) (n : Int) 20, _, _)) (by refine ⟨?_, ?_, ?_, ?_, ?_, ?_, ?_, trivial⟩ <;> (first | rfl | exact hall | exact decide_eq_true (by omega))) ⟨(by exact le_bool hf), trivial⟩ ?_
      simp only [Int.toNat_natCast]
      exact hw
  rw [hn, hT]
  obtain ⟨l, hl⟩ : ∃ l, L0.map chD = l := ⟨_, rfl⟩
  rw [hl] at hloop ⊢
  refine WK.segA ok 1000 0 [] [] [0, 1, 2, 6, 7, 8] [] [] rfl (by kernel_rfl : runSegA (cfB ts4) 1000 0 _ _ _ _ (ini 63 [.own 0 4, .d (.int .i64 (n : Int)), cmpv] (arC l)) = some (stackAt stC 0, st1 l (n : Int) 0 20, _, _)) trivial trivial ?_
  exact hloop
end Go.Proofs.Ytljfolepmkcjlaa

/-
  What a function leaves of an array that it was handed, as an array of its own: the first so many elements.
-/
namespace Go.Am
variable {P : Program}

/-- An answer that is the handed array, or its first part, is an array of its own; the handed one is gone. -/
theorem C.own1 {f : FuncId} {args : List RV} {ty sz : Nat} {els els1 : List DV} {v0 : RV} (h : C P f args [.arr ty sz els1] (fun r o => r = v0 ∧ o = [.arr ty sz els]))
    (k : Nat) (hk : k ≤ els.length) (hv : v0 = .sub 0 sz 0 k ∨ (v0 = .own 0 sz ∧ k = els.length)) :
    C P f args [.arr ty sz els1] (fun r o => r = .own 1 sz ∧ o = [.gone, .arr ty sz (els.take k)]) := by
  intro κ φ w vs h1 h2 h3 h4
  refine (h κ φ w vs h1 h2 h3 h4).mono ?_
  rintro e w' ⟨v, r, o, κ', φ', rfl, ⟨hr0, rfl⟩, g1, g2, g3, g4, g5, g6⟩
  rw [hr0] at g1
  have hu : ∀ i, 1 ≤ i → φ' i = .un := fun i hi => by
    have := g2 i
    rw [show tabOf [PObj.arr ty sz els] i = none by simp [tabOf]; omega] at this
    exact this
  have hp1 : (setP φ' 1 (φ' 0)) 1 = φ' 0 := setP_same _ _ _
  have hpo : ∀ i, i ≠ 1 → (setP φ' 1 (φ' 0)) i = φ' i := fun i hi => setP_ne _ _ hi
  have hlt : (els.take k).length = k := by rw [List.length_take]; omega
  have hkp : Kp φ (tabOf [.arr ty sz els1]) (setP φ' 1 (φ' 0)) (tabOf [.gone, .arr ty sz (els.take k)]) := by
    have u1 : φ 1 = .un := by have := h1 1; exact this
    refine ⟨fun i hi => ?_, fun i n hi hn => ?_⟩
    · have : i ≠ 1 := fun e => by subst e; exact hi u1
      rw [hpo i this]; exact g6.phi i hi
    · match i, hn with
      | 0, hn => simp [tabOf, PObj.len?] at hn
      | 1, _ => exact absurd u1 hi
      | i + 2, hn => simp [tabOf, PObj.len?] at hn
  -- the block that the array lies in, if it has one
  have g20 := g2 0
  simp only [tabOf, List.getElem?_cons_zero] at g20
  rcases g20 with ⟨n1, n2⟩ | ⟨b, c, fz, a1, a2, a3, a4, a5⟩
  · -- nothing in it
    subst n2
    have hk0 : k = 0 := by simpa using hk
    subst hk0
    have key : ∀ {base : Option Addr}, RVR κ' (setP φ' 1 (φ' 0)) (tabOf [.gone, .arr ty sz (([] : List DV).take 0)]) w'.heap (.own 1 sz) (.slice base 0 0) := .ownNil (by rw [hp1]; exact n1)
    have hval : ∃ base, v = .slice base 0 0 := by
      rcases hv with rfl | ⟨rfl, _⟩
      · cases g1 with
        | sub hφ => rw [n1] at hφ; cases hφ
        | sub0 => exact ⟨_, rfl⟩
      · cases g1 with
        | own hφ => rw [n1] at hφ; cases hφ
        | ownNil => exact ⟨_, rfl⟩
    obtain ⟨base, rfl⟩ := hval
    refine ⟨_, .own 1 sz, [.gone, .arr ty sz (([] : List DV).take 0)], κ', setP φ' 1 (φ' 0), rfl, ⟨rfl, rfl⟩, key, fun i => ?_, g3, by simp, g5, hkp⟩
    match i with
    | 0 => exact trivial
    | 1 => exact .inl ⟨by rw [hp1]; exact n1, rfl⟩
    | i + 2 => show setP φ' 1 (φ' 0) (i + 2) = .un; rw [hpo _ (by omega)]; exact hu _ (by omega)
  · by_cases hsub0 : v0 = .sub 0 sz 0 0 ∧ ∃ base, v = .slice base 0 0
    · -- a part with nothing in it
      obtain ⟨rfl, base, rfl⟩ := hsub0
      have hk0 : k = 0 := by
        rcases hv with hv | ⟨hv, _⟩
        · injection hv with _ _ _ e; exact e.symm
        · cases hv
      subst hk0
      refine ⟨_, .own 1 sz, [.gone, .arr ty sz (els.take 0)], κ', setP φ' 1 .nil, rfl, ⟨rfl, rfl⟩, .ownNil (setP_same _ _ _), fun i => ?_, g3, by simp, g5, ?_⟩
      · match i with
        | 0 => exact trivial
        | 1 => exact .inl ⟨setP_same _ _ _, by simp⟩
        | i + 2 => show setP φ' 1 .nil (i + 2) = .un; rw [setP_ne _ _ (by omega)]; exact hu _ (by omega)
      · have u1 : φ 1 = .un := by have := h1 1; exact this
        refine ⟨fun i hi => ?_, fun i n hi hn => ?_⟩
        · have : i ≠ 1 := fun e => by subst e; exact hi u1
          rw [setP_ne _ _ this]; exact g6.phi i hi
        · match i, hn with
          | 0, hn => simp [tabOf, PObj.len?] at hn
          | 1, _ => exact absurd u1 hi
          | i + 2, hn => simp [tabOf, PObj.len?] at hn
    · have hval : ∃ cap, v = .slice (some ⟨b, 0, none⟩) k cap ∧ cap * sz ≤ c.size ∧ k ≤ cap := by
        rcases hv with rfl | ⟨rfl, hke⟩
        · cases g1 with
          | sub hφ hb hcap hlc =>
            rw [a1] at hφ; injection hφ with hφ; subst hφ
            rw [a3] at hb; injection hb with hb; injection hb with e1 e2 e3; subst e1
            rw [Nat.zero_mul]
            exact ⟨_, rfl, by simpa using hcap, hlc⟩
          | sub0 => exact absurd ⟨rfl, _, rfl⟩ hsub0
        · cases g1 with
          | own hφ hb hcap hlc hlen =>
            rw [a1] at hφ; injection hφ with hφ; subst hφ
            rw [a3] at hb; injection hb with hb; injection hb with e1 e2 e3; subst e1
            have := hlen els.length rfl
            subst this
            subst hke
            exact ⟨_, rfl, hcap, hlc⟩
          | ownNil hφ => rw [a1] at hφ; cases hφ
      obtain ⟨cap, rfl, v1, v2⟩ := hval
      have hne : ∀ x, κ' x = .imm → x ≠ b := fun x hx e => by subst e; rw [a2] at hx; cases hx
      have him : ∀ x, κ' x = .imm → setK κ' b (.own 1) x = .imm := fun x hx => by unfold setK; rw [if_neg (hne x hx)]; exact hx
      refine ⟨_, .own 1 sz, [.gone, .arr ty sz (els.take k)], setK κ' b (.own 1), setP φ' 1 (φ' 0), rfl, ⟨rfl, rfl⟩, ?_, fun i => ?_, fun x hx => ?_, by simp, ?_, hkp⟩
      · exact .own (by rw [hp1]; exact a1) a3 v1 v2 (fun n hn => by simp only [tabOf, List.getElem?_cons_succ, List.getElem?_cons_zero, PObj.len?, Option.some.injEq] at hn; omega)
      · match i with
        | 0 => exact trivial
        | 1 =>
          refine .inr ⟨b, c, fz, by rw [hp1]; exact a1, by unfold setK; rw [if_pos rfl], a3, a4, ?_⟩
          obtain ⟨e1, e2, e3⟩ := a5
          refine ⟨fun x hx => e1 x (List.mem_of_mem_take hx), ?_, fun i x j y u hx hy hu => ?_⟩
          · have := Nat.mul_le_mul_right sz hk
            rw [hlt]; omega
          · rw [List.getElem?_take] at hx
            split at hx
            · exact (e3 i x j y u hx hy hu).mono fun z hz => ⟨him z hz, rfl⟩
            · cases hx
        | i + 2 => show setP φ' 1 (φ' 0) (i + 2) = .un; rw [hpo _ (by omega)]; exact hu _ (by omega)
      · by_cases e : x = b
        · subst e
          exact (Array.getElem?_eq_some_iff.1 a3).1
        · unfold setK at hx; rw [if_neg e] at hx; exact g3 x hx
      · refine ⟨g5.size, fun x hx => ?_, fun x hxl hx => ?_, g5.shp, g5.os, g5.out⟩
        · exact ⟨him x (g5.imm x hx).1, (g5.imm x hx).2⟩
        · have := g5.oth x hxl hx
          refine ⟨?_, this.2⟩
          unfold setK
          rw [if_neg (fun e => by subst e; rw [a2] at this; cases this.1)]
          exact this.1
end Go.Am

/-
  Sorting in place, and what is none taken out, run.
-/
namespace Go.Proofs.Ytljfolepmkcjlaa
open Go.RowKit Plain Am IntWalk
set_option maxRecDepth 100000
set_option linter.unusedVariables false
set_option linter.unusedSimpArgs false

noncomputable abbrev ixC : Code := bodyOf Try.f87
noncomputable abbrev deC : Code := bodyOf Try.f72
noncomputable abbrev m1C : Code := bodyOf Try.f73
def delv : RV := .clo (.func 73) [] []
def ix1 (l : List DV) (n i : Int) : ESt := { n := 19, m := 1, regs := T.mk [(0, .own 0 4), (1, delv), (7, .d (.int .i64 n)), (8, .d (.int .i64 i))], objs := T.mk [(0, .arr 46 4 l)] }
def de1 (l : List DV) (i j : Int) : ESt := { n := 42, m := 1, regs := T.mk [(0, .own 0 4), (1, delv), (5, .d (.int .i64 i)), (6, .d (.int .i64 j))], objs := T.mk [(0, .arr 46 4 l)] }
/-- is a change none? -/
def nilB (x : Chg) : Bool := decide (x.o = x.n)
def nilG : DV → Option (DV × List Bool) := fun x => some (.bool (nilB (toChg x)), [isC x])
def idxC (L : List Chg) : Int := match L.findIdx? nilB with
  | some i => (i : Int)
  | none => -1
def idxE : Ent := fun a o => match a, o with
  | [.own 0 4, .clo (.func f) [] []], [.arr T 4 els] => some (.d (.int .i64 (idxC (els.map toChg))), [.arr T 4 els], [Nat.beq T chT, Nat.beq f 73, els.all isC, decide (els.length ≤ 65536)])
  | _, _ => none
def stbE : Ent := fun a o => match a, o with
  | [.own 0 4, .d (.int .i64 n), .clo (.func f) [] []], [.arr T 4 els] => some (.tup [], [.arr T 4 ((Srt.isort cmpC (els.map toChg)).map chD)], [Nat.beq T chT, Nat.beq f 39, els.all isC, decide (n = els.length), decide (els.length ≤ 65536), distB (els.map toChg)])
  | _, _ => none
noncomputable def ts5 : List (Nat × Ent) := [(88, stbE), (73, e1 nilG), (87, idxE)]
theorem nil_c (x : Chg) (hx : Chg.ok x) : C Try.prog 73 [.d (chD x)] [] (fun r o => r = .d (.bool (nilB x)) ∧ o = []) := by
  have ok := cfT_ok t3_ok
  refine C_of_run (fn := Try.f73) (body := m1C) true (by kernel_rfl) (by kernel_rfl) (by kernel_rfl) ?_
  exact WK.fin ok 1000 0 [] [decide ((List.map vD x.o).length ≤ 65536) && (List.map vD x.3).all isVal && true && true, decide ((List.map vD x.n).length ≤ 65536) && (List.map vD x.4).all isVal && true && true] [] rfl (by kernel_rfl : runEnd (cfT t3) true _ 1000 0 _ _ (ini 8 [.d (chD x)] []) = some (RV.d (DV.bool (decide (unR (rD x.o) = unR (rD x.n)))), [], _, _)) (by refine ⟨?_, ?_, trivial⟩ <;> (first | exact ok_o hx | exact ok_n hx)) trivial ⟨by rw [unR_rD, unR_rD]; rfl, rfl⟩
theorem nil_ent : EntOk Try.prog 73 (e1 nilG) := by
  refine e1_ok fun x y c hg hc => ?_
  simp only [nilG, Option.some.injEq, Prod.mk.injEq] at hg
  obtain ⟨rfl, rfl⟩ := hg
  obtain ⟨a, rfl, wa⟩ := isC_spec (hc (isC x) (by simp))
  rw [toChg_chD]
  exact nil_c a wa
theorem stb_ent : EntOk Try.prog 88 stbE := by
  intro a o r o' c hg hc
  unfold stbE at hg
  split at hg
  · rename_i n f T els
    simp only [Option.some.injEq, Prod.mk.injEq] at hg
    obtain ⟨rfl, rfl, rfl⟩ := hg
    have hT := nbE (hc (Nat.beq T chT) (by simp))
    have hF := nbE (hc (Nat.beq f 39) (by simp))
    have h1 := hc (els.all isC) (by simp)
    have h2 := of_decide_eq_true (hc (decide (n = els.length)) (by simp))
    have h6 := of_decide_eq_true (hc (decide (els.length ≤ 65536)) (by simp))
    have h7 := hc (distB (els.map toChg)) (by simp)
    subst hT hF h2
    obtain ⟨L, rfl, hLok⟩ := els_of h1 h6
    rw [unL_map] at h7 ⊢
    have := stable_c L hLok h7
    rw [List.length_map]
    exact this
  · cases hg
/-- the entry of sorting -/
def srtE : Ent := fun a o => match a, o with
  | [.own 0 4, .clo (.func f) [] []], [.arr T 4 els] => some (.tup [], [.arr T 4 ((Srt.isort cmpC (els.map toChg)).map chD)], [Nat.beq T chT, Nat.beq f 39, els.all isC, decide (els.length ≤ 65536), distB (els.map toChg)])
  | _, _ => none
theorem ts5s_ok : EntsOk Try.prog [(88, stbE)] := .cons stb_ent .nil
theorem srt_ent : EntOk Try.prog 74 srtE := by
  intro a o r o' c hg hc
  unfold srtE at hg
  split at hg
  · rename_i f T els
    simp only [Option.some.injEq, Prod.mk.injEq] at hg
    obtain ⟨rfl, rfl, rfl⟩ := hg
    have hT := nbE (hc (Nat.beq T chT) (by simp))
    have hF := nbE (hc (Nat.beq f 39) (by simp))
    have h1 := hc (els.all isC) (by simp)
    have h6 := hc (decide (els.length ≤ 65536)) (by simp)
    have h7 := hc (distB (els.map toChg)) (by simp)
    subst hT hF
    have ok := cfB_ok ts5s_ok
    refine C_of_run (fn := Try.f74) (body := bodyOf Try.f74) false (by kernel_rfl) (by kernel_rfl) (by kernel_rfl) ?_
    exact WK.fin ok 1000 0 [] [true, true, els.all isC, decide ((els.length : Int) = els.length), decide (els.length ≤ 65536), distB (els.map toChg)] [] rfl (by kernel_rfl : runEnd (cfB [(88, stbE)]) false _ 1000 0 _ _ (ini 9 [.own 0 4, cmpv] (arC els)) = some (.tup [], [.arr chT 4 ((Srt.isort cmpC (els.map toChg)).map chD)], _, _)) ⟨rfl, rfl, h1, decide_eq_true rfl, h6, h7, trivial⟩ trivial ⟨rfl, rfl⟩
  · cases hg
theorem ov_N {x : Chg} {b : Bool} (h : nilB x = b) : RVle (.d (.bool (nilB (toChg (chD x))))) (.d (.bool b)) := .of_eq (by rw [toChg_chD, h])
noncomputable def ts5a : List (Nat × Ent) := [(73, e1 nilG)]
noncomputable def ts5b : List (Nat × Ent) := [(73, e1 nilG), (87, idxE)]
theorem ts5a_ok : EntsOk Try.prog ts5a := .cons nil_ent .nil
set_option maxHeartbeats 2000000 in
theorem idx_c (L : List Chg) (hok : okL L) : C Try.prog 87 [.own 0 4, delv] (arC (L.map chD)) (fun r o => r = .d (.int .i64 (idxC L)) ∧ o = arC (L.map chD)) := by
  have ok := cfB_ok ts5a_ok
  refine C_of_run (fn := Try.f87) (body := ixC) false (by kernel_rfl) (by kernel_rfl) (by kernel_rfl) ?_
  obtain ⟨n, hn⟩ : ∃ n, L.length = n := ⟨_, rfl⟩
  have hn6 : n ≤ 65536 := by have := hok.1; omega
  have hloop : WK Try.prog 1 (stackAt ixC 0) (ix1 (L.map chD) (n : Int) 0).den (fun s => ∃ r objs' c, finish (Env.of Try.prog) false 1 (Try.f87.results.toList) s.R s.O = some (r, objs', c) ∧ (∀ b ∈ c, b = true) ∧ r = .d (.int .i64 (idxC L)) ∧ objs' = arC (L.map chD)) := by
    refine WK.rec' (P := Try.prog) (m := 1) (k := stackAt ixC 0) (fun (i : Nat) => ix1 (L.map chD) (n : Int) (i : Int)) (fun i => i ≤ n ∧ ∀ j x, j < i → L[j]? = some x → nilB x = false) (fun i => n - i) ?_ 0 ⟨Nat.zero_le _, by intro j x h; omega⟩
    rintro i ⟨hi, hpre⟩ ih
    by_cases hlt : i < n
    · obtain ⟨x, hx⟩ : ∃ x, L[i]'(by omega) = x := ⟨_, rfl⟩
      have gx : L[i]? = some x := by rw [List.getElem?_eq_getElem (by omega), hx]
      have hxo : Chg.ok x := hok.2 x (List.mem_of_getElem? gx)
      have bx1 := bd_in gx
      have bx2 := bd_in2 gx
      have bx3 := bd_ble gx
      have bx4 := ov_load gx
      rcases Bool.eq_false_or_eq_true (nilB x) with hb | hb
      · have e : idxC L = i := by
          unfold idxC
          have : L.findIdx? nilB = some i := by
            rw [List.findIdx?_eq_some_iff_getElem]
            refine ⟨by omega, by rw [hx]; exact hb, fun j hj => ?_⟩
            have := hpre j (L[j]'(by omega)) hj (List.getElem?_eq_getElem (by omega))
            simpa using this
          rw [this]
        rw [e]
        obtain ⟨l, hl⟩ : ∃ l, L.map chD = l := ⟨_, rfl⟩
        rw [hl] at bx1 bx2 bx3 bx4 ⊢
        exact WK.fin ok 1000 0 [(9, RV.d (DV.bool true)), (15, RV.d (DV.agg [DV.str x.1, DV.lst 3 (List.map vD x.2) false, DV.lst 3 (List.map vD x.3) false, DV.lst 3 (List.map vD x.4) false])), (18, RV.d (DV.int Go.IntKind.i64 (Nat.cast (R := Int) (i + 1)))), (16, RV.d (DV.bool true))] [decide (0 ≤ (Nat.cast (R := Int) i) ∧ (Nat.cast (R := Int) i) < (Nat.cast (R := Int) l.length)), decide ((Nat.cast (R := Int) i).toNat < l.length), Nat.ble 4 (l.getD (Nat.cast (R := Int) i).toNat DV.nilp).cells.length, isC (DV.agg [DV.str x.1, DV.lst 3 (List.map vD x.2) false, DV.lst 3 (List.map vD x.3) false, DV.lst 3 (List.map vD x.4) false])] [(RV.d (DV.bool (decide ((Nat.cast (R := Int) i) < (Nat.cast (R := Int) n)))), RV.d (DV.bool true)), (RV.d (DV.agg (List.take 4 (List.drop 0 (l.getD (Nat.cast (R := Int) i).toNat DV.nilp).cells))), RV.d (DV.agg [DV.str x.1, DV.lst 3 (List.map vD x.2) false, DV.lst 3 (List.map vD x.3) false, DV.lst 3 (List.map vD x.4) false])), (RV.d (DV.bool (nilB { t := x.1, k := List.map toVal (List.map vD x.k), o := List.map toVal (List.map vD x.o), n := List.map toVal (List.map vD x.n) })), RV.d (DV.bool true))] rfl (by kernel_rfl : runEnd (cfB ts5a) false _ 1000 0 _ _ (ix1 l (n : Int) (i : Int)) = some (RV.d (DV.int Go.IntKind.i64 (Nat.cast (R := Int) i)), [PObj.arr 46 4 l], _, _)) (by refine ⟨?_, ?_, ?_, ?_, trivial⟩ <;> (first | exact bx1 | exact bx2 | exact bx3 | exact isC_chD hxo)) (by refine ⟨?_, ?_, ?_, trivial⟩ <;> (first | exact le_bool (decide_eq_true (by omega)) | exact bx4 | exact ov_N hb)) ⟨rfl, rfl⟩
      · have hw := ih (i + 1) ⟨hlt, fun j y hj hy => by
          by_cases e : j = i
          · subst e; rw [gx] at hy; injection hy with hy; subst hy; exact hb
          · exact hpre j y (by omega) hy⟩ (by omega)
        obtain ⟨l, hl⟩ : ∃ l, L.map chD = l := ⟨_, rfl⟩
        rw [hl] at bx1 bx2 bx3 bx4 hw ⊢
        refine WK.segA ok 1000 0 [(9, RV.d (DV.bool true)), (15, RV.d (DV.agg [DV.str x.1, DV.lst 3 (List.map vD x.2) false, DV.lst 3 (List.map vD x.3) false, DV.lst 3 (List.map vD x.4) false])), (18, RV.d (DV.int Go.IntKind.i64 (Nat.cast (R := Int) (i + 1)))), (16, RV.d (DV.bool false))] [] [0, 1, 7, 8] [decide (0 ≤ (Nat.cast (R := Int) i) ∧ (Nat.cast (R := Int) i) < (Nat.cast (R := Int) l.length)), decide ((Nat.cast (R := Int) i).toNat < l.length), Nat.ble 4 (l.getD (Nat.cast (R := Int) i).toNat DV.nilp).cells.length, isC (DV.agg [DV.str x.1, DV.lst 3 (List.map vD x.2) false, DV.lst 3 (List.map vD x.3) false, DV.lst 3 (List.map vD x.4) false])] [(RV.d (DV.bool (decide ((Nat.cast (R := Int) i) < (Nat.cast (R := Int) n)))), RV.d (DV.bool true)), (RV.d (DV.agg (List.take 4 (List.drop 0 (l.getD (Nat.cast (R := Int) i).toNat DV.nilp).cells))), RV.d (DV.agg [DV.str x.1, DV.lst 3 (List.map vD x.2) false, DV.lst 3 (List.map vD x.3) false, DV.lst 3 (List.map vD x.4) false])), (RV.d (DV.bool (nilB { t := x.1, k := List.map toVal (List.map vD x.k), o := List.map toVal (List.map vD x.o), n := List.map toVal (List.map vD x.n) })), RV.d (DV.bool false)), (RV.d (DV.int Go.IntKind.i64 (Go.IntKind.i64.wrap ((Nat.cast (R := Int) i) + 1))), RV.d (DV.int Go.IntKind.i64 (Nat.cast (R := Int) (i + 1))))] rfl (by kernel_rfl : runSegA (cfB ts5a) 1000 0 _ _ _ _ (ix1 l (n : Int) (i : Int)) = some (stackAt ixC 0, ix1 l (n : Int) ((i + 1 : Nat) : Int), _, _)) (by refine ⟨?_, ?_, ?_, ?_, trivial⟩ <;> (first | exact bx1 | exact bx2 | exact bx3 | exact isC_chD hxo)) (by refine ⟨?_, ?_, ?_, ?_, trivial⟩ <;> (first | exact le_bool (decide_eq_true (by omega)) | exact bx4 | exact ov_N hb | exact ov_succ (by omega))) ?_
        exact hw
    · have e : idxC L = -1 := by
        unfold idxC
        have : L.findIdx? nilB = none := by
          rw [List.findIdx?_eq_none_iff]
          intro y hy
          obtain ⟨j, hj⟩ := List.getElem?_of_mem hy
          exact hpre j y (by have := (List.getElem?_eq_some_iff.1 hj).1; omega) hj
        rw [this]
      rw [e]
      obtain ⟨l, hl⟩ : ∃ l, L.map chD = l := ⟨_, rfl⟩
      rw [hl]
      exact WK.fin ok 1000 0 [(9, RV.d (DV.bool false))] [] [(RV.d (DV.bool (decide ((Nat.cast (R := Int) i) < (Nat.cast (R := Int) n)))), RV.d (DV.bool false))] rfl (by kernel_rfl : runEnd (cfB ts5a) false _ 1000 0 _ _ (ix1 l (n : Int) (i : Int)) = some (RV.d (DV.int Go.IntKind.i64 (-1)), [PObj.arr 46 4 l], _, _)) trivial ⟨(by exact le_bool (decide_eq_false (by omega))), trivial⟩ ⟨rfl, rfl⟩
  have hll : (L.map chD).length = n := by rw [List.length_map, hn]
  obtain ⟨l, hl⟩ : ∃ l, L.map chD = l := ⟨_, rfl⟩
  rw [hl] at hloop hll ⊢
  refine WK.segA ok 1000 0 [] [] [0, 1, 7, 8] [] [] rfl (by kernel_rfl : runSegA (cfB ts5a) 1000 0 _ _ _ _ (ini 19 [.own 0 4, delv] (arC l)) = some (stackAt ixC 0, ix1 l (l.length : Int) 0, _, _)) trivial trivial ?_
  rw [hll]; exact hloop
theorem idx_ent : EntOk Try.prog 87 idxE := by
  intro a o r o' c hg hc
  unfold idxE at hg
  split at hg
  · rename_i f T els
    simp only [Option.some.injEq, Prod.mk.injEq] at hg
    obtain ⟨rfl, rfl, rfl⟩ := hg
    have hT := nbE (hc (Nat.beq T chT) (by simp))
    have hF := nbE (hc (Nat.beq f 73) (by simp))
    have h1 := hc (els.all isC) (by simp)
    have h6 := of_decide_eq_true (hc (decide (els.length ≤ 65536)) (by simp))
    subst hT hF
    obtain ⟨L, rfl, hLok⟩ := els_of h1 h6
    rw [unL_map]
    exact idx_c L hLok
  · cases hg
theorem ts5b_ok : EntsOk Try.prog ts5b := .cons nil_ent (.cons idx_ent .nil)
def zD : DV := .agg [.str [], .lst 0 [] true, .lst 0 [] true, .lst 0 [] true]
def clr (l : List DV) (i n : Nat) : List DV := l.take i ++ List.replicate (n - i) zD ++ l.drop (i + (n - i))
theorem live_nil {L : List Chg} (h : ∀ x ∈ L, nilB x = false) : live L = L := by
  unfold live; rw [List.filter_eq_self]
  intro x hx; have := h x hx; unfold nilB at this; rw [this]; rfl
theorem live_snoc (L : List Chg) (x : Chg) : live (L ++ [x]) = live L ++ (if nilB x = true then [] else [x]) := by
  unfold live; rw [List.filter_append]; congr 1
  unfold nilB
  by_cases h : x.o = x.n
  · simp [h]
  · simp [h]
abbrev EndsD (n : Nat) (l : List DV) (k : Nat) : SSt → Prop := fun s => ∃ r objs' c, finish (Env.of Try.prog) false 1 (Try.f72.results.toList) s.R s.O = some (r, objs', c) ∧ (∀ b ∈ c, b = true) ∧ r = .sub 0 4 0 k ∧ objs' = arC l
set_option maxHeartbeats 2000000 in
theorem de_loop (L : List Chg) (hok : okL L) (n : Nat) (hn : L.length = n) (j : Nat) (G : List Chg) (hj : j ≤ n) (hG : (live (L.take j)).length + G.length = j) :
    WK Try.prog 1 (stackAt deC 0) (de1 ((live (L.take j) ++ (G ++ L.drop j)).map chD) ((live (L.take j)).length : Int) (j : Int)).den (EndsD n ((live L).map chD ++ List.replicate (n - (live L).length) zD) (live L).length) := by
  have ok := cfB_ok ts5b_ok
  have hn6 : n ≤ 65536 := by have := hok.1; omega
  refine WK.rec' (P := Try.prog) (m := 1) (k := stackAt deC 0) (fun (q : Nat × List Chg) => de1 ((live (L.take q.1) ++ (q.2 ++ L.drop q.1)).map chD) ((live (L.take q.1)).length : Int) (q.1 : Int)) (fun q => q.1 ≤ n ∧ (live (L.take q.1)).length + q.2.length = q.1) (fun q => n - q.1) ?_ (j, G) ⟨hj, hG⟩
  clear hj hG j G
  rintro ⟨j, G⟩ ⟨hj, hG⟩ ih
  simp only at hj hG ih ⊢
  obtain ⟨i, hi⟩ : ∃ i, (live (L.take j)).length = i := ⟨_, rfl⟩
  have hll : ((live (L.take j) ++ (G ++ L.drop j)).map chD).length = n := by simp only [List.length_map, List.length_append, List.length_drop]; omega
  by_cases hlt : j < n
  · obtain ⟨x, hx⟩ : ∃ x, L[j]'(by omega) = x := ⟨_, rfl⟩
    have gx0 : L[j]? = some x := by rw [List.getElem?_eq_getElem (by omega), hx]
    have ex : L.drop j = x :: L.drop (j + 1) := by rw [List.drop_eq_getElem_cons (by omega), hx]
    have tx : L.take (j + 1) = L.take j ++ [x] := by rw [List.take_add_one, List.getElem?_eq_getElem (by omega), hx]; rfl
    have hxo : Chg.ok x := hok.2 x (List.mem_of_getElem? gx0)
    have gx : (live (L.take j) ++ (G ++ L.drop j))[j]? = some x := by
      rw [ex, ← List.append_assoc]; exact get_mid _ _ _ _ (by simp; omega)
    have bx1 := bd_in gx
    have bx2 := bd_in2 gx
    have bx3 := bd_ble gx
    have bx4 := ov_load gx
    have hA : (!nilB x) = true → ∃ G2 : List Chg, (live (L.take j) ++ (G ++ L.drop j)).set i x = live (L.take (j + 1)) ++ (G2 ++ L.drop (j + 1)) ∧ (live (L.take (j + 1))).length = i + 1 ∧ (live (L.take (j + 1))).length + G2.length = j + 1 := fun hb => by
      have hb' : nilB x = false := by simpa using hb
      have el : live (L.take (j + 1)) = live (L.take j) ++ [x] := by rw [tx, live_snoc, if_neg (by simp [hb'])]
      cases G with
      | nil =>
        refine ⟨[], ?_, by rw [el]; simp; omega, by rw [el]; simp at hG ⊢; omega⟩
        rw [ex, el, List.nil_append, set_mid _ _ _ _ _ hi.symm]
        simp
      | cons g G' =>
        refine ⟨G' ++ [x], ?_, by rw [el]; simp; omega, by rw [el]; simp at hG ⊢; omega⟩
        rw [ex, el, List.cons_append, set_mid _ _ _ _ _ hi.symm]
        simp
    have hB : (!nilB x) = false → live (L.take j) ++ (G ++ L.drop j) = live (L.take (j + 1)) ++ ((G ++ [x]) ++ L.drop (j + 1)) ∧ (live (L.take (j + 1))).length = i ∧ (live (L.take (j + 1))).length + (G ++ [x]).length = j + 1 := fun hb => by
      have hb' : nilB x = true := by simpa using hb
      have el : live (L.take (j + 1)) = live (L.take j) := by rw [tx, live_snoc, if_pos hb', List.append_nil]
      refine ⟨by rw [ex, el]; simp, by rw [el]; exact hi, by rw [el]; simp; omega⟩
    have hA2 : (!nilB x) = true → WK Try.prog 1 (stackAt deC 0) (de1 (((live (L.take j) ++ (G ++ L.drop j)).map chD).set i (chD x)) ((i + 1 : Nat) : Int) ((j + 1 : Nat) : Int)).den (EndsD n ((live L).map chD ++ List.replicate (n - (live L).length) zD) (live L).length) := fun hb => by
      obtain ⟨G2, h1, h2, h3⟩ := hA hb
      have := ih (j + 1, G2) ⟨hlt, h3⟩ (by simp only; omega)
      simp only [h2] at this
      rw [map_set', h1]
      exact this
    have hB2 : (!nilB x) = false → WK Try.prog 1 (stackAt deC 0) (de1 ((live (L.take j) ++ (G ++ L.drop j)).map chD) (i : Int) ((j + 1 : Nat) : Int)).den (EndsD n ((live L).map chD ++ List.replicate (n - (live L).length) zD) (live L).length) := fun hb => by
      obtain ⟨h1, h2, h3⟩ := hB hb
      have := ih (j + 1, G ++ [x]) ⟨hlt, h3⟩ (by simp only; omega)
      simp only [h2] at this
      rw [h1]
      exact this
    have hnb : ∀ {b : Bool}, (!nilB x) = b → RVle (.d (.bool (nilB (toChg (chD x))))) (.d (.bool (nilB x))) := fun _ => .of_eq (by rw [toChg_chD])
    obtain ⟨k, hk⟩ : ∃ k, (live L).length = k := ⟨_, rfl⟩
    obtain ⟨T, hT⟩ : ∃ T, (live L).map chD ++ List.replicate (n - (live L).length) zD = T := ⟨_, rfl⟩
    obtain ⟨l, hl⟩ : ∃ l, (live (L.take j) ++ (G ++ L.drop j)).map chD = l := ⟨_, rfl⟩
    rw [hl] at bx1 bx2 bx3 bx4 hll
    rw [hl, hT, hk] at hA2 hB2
    rw [hl, hT, hi, hk]
    clear ih hA hB
    rcases Bool.eq_false_or_eq_true (!nilB x : Bool) with h29 | h29
    · skip
      refine WK.segA ok 1000 0 [(19, RV.d (DV.bool true)), (25, RV.d (DV.agg [DV.str x.1, DV.lst 3 (List.map vD x.2) false, DV.lst 3 (List.map vD x.3) false, DV.lst 3 (List.map vD x.4) false])), (28, RV.d (DV.bool (nilB x))), (21, RV.d (DV.int Go.IntKind.i64 (Nat.cast (R := Int) (j + 1)))), (35, RV.d (DV.int Go.IntKind.i64 (Nat.cast (R := Int) (i + 1)))), (29, RV.d (DV.bool true))] [] [0, 1, 5, 6] [decide (0 ≤ (Nat.cast (R := Int) j) ∧ (Nat.cast (R := Int) j) < (Nat.cast (R := Int) l.length)), decide ((Nat.cast (R := Int) j).toNat < l.length), Nat.ble 4 (l.getD (Nat.cast (R := Int) j).toNat DV.nilp).cells.length, isC (DV.agg [DV.str x.1, DV.lst 3 (List.map vD x.2) false, DV.lst 3 (List.map vD x.3) false, DV.lst 3 (List.map vD x.4) false]), decide (0 ≤ (Nat.cast (R := Int) i) ∧ (Nat.cast (R := Int) i) < (Nat.cast (R := Int) l.length)), decide ((Nat.cast (R := Int) i).toNat < l.length)] [(RV.d (DV.bool (decide ((Nat.cast (R := Int) j) < (Nat.cast (R := Int) l.length)))), RV.d (DV.bool true)), (RV.d (DV.agg (List.take 4 (List.drop 0 (l.getD (Nat.cast (R := Int) j).toNat DV.nilp).cells))), RV.d (DV.agg [DV.str x.1, DV.lst 3 (List.map vD x.2) false, DV.lst 3 (List.map vD x.3) false, DV.lst 3 (List.map vD x.4) false])), (RV.d (DV.bool (nilB { t := x.1, k := List.map toVal (List.map vD x.k), o := List.map toVal (List.map vD x.o), n := List.map toVal (List.map vD x.n) })), RV.d (DV.bool (nilB x))), (RV.d (DV.bool !nilB x), RV.d (DV.bool true)), (RV.d (DV.int Go.IntKind.i64 (Go.IntKind.i64.wrap ((Nat.cast (R := Int) i) + 1))), RV.d (DV.int Go.IntKind.i64 (Nat.cast (R := Int) (i + 1)))), (RV.d (DV.int Go.IntKind.i64 (Go.IntKind.i64.wrap ((Nat.cast (R := Int) j) + 1))), RV.d (DV.int Go.IntKind.i64 (Nat.cast (R := Int) (j + 1))))] rfl (by kernel_rfl : runSegA (cfB ts5b) 1000 0 _ _ _ _ (de1 l (i : Int) (j : Int)) = some (stackAt deC 0, de1 (l.set (Nat.cast (R := Int) i).toNat (DV.agg [DV.str x.1, DV.lst 3 (List.map vD x.2) false, DV.lst 3 (List.map vD x.3) false, DV.lst 3 (List.map vD x.4) false])) (Nat.cast (R := Int) (i + 1)) ((j + 1 : Nat) : Int), _, _)) (by refine ⟨?_, ?_, ?_, ?_, ?_, ?_, trivial⟩ <;> (first | exact bx1 | exact bx2 | exact bx3 | exact isC_chD hxo | exact decide_eq_true (by omega))) (by refine ⟨?_, ?_, ?_, le_bool h29, ?_, ?_, trivial⟩ <;> (first | exact le_bool (decide_eq_true (by omega)) | exact bx4 | exact hnb h29 | exact ov_succ (by omega))) ?_
      first | exact hA2 h29 | exact hB2 h29
    · skip
      refine WK.segA ok 1000 0 [(19, RV.d (DV.bool true)), (25, RV.d (DV.agg [DV.str x.1, DV.lst 3 (List.map vD x.2) false, DV.lst 3 (List.map vD x.3) false, DV.lst 3 (List.map vD x.4) false])), (28, RV.d (DV.bool (nilB x))), (21, RV.d (DV.int Go.IntKind.i64 (Nat.cast (R := Int) (j + 1)))), (35, RV.d (DV.int Go.IntKind.i64 (Nat.cast (R := Int) (i + 1)))), (29, RV.d (DV.bool false))] [] [0, 1, 5, 6] [decide (0 ≤ (Nat.cast (R := Int) j) ∧ (Nat.cast (R := Int) j) < (Nat.cast (R := Int) l.length)), decide ((Nat.cast (R := Int) j).toNat < l.length), Nat.ble 4 (l.getD (Nat.cast (R := Int) j).toNat DV.nilp).cells.length, isC (DV.agg [DV.str x.1, DV.lst 3 (List.map vD x.2) false, DV.lst 3 (List.map vD x.3) false, DV.lst 3 (List.map vD x.4) false])] [(RV.d (DV.bool (decide ((Nat.cast (R := Int) j) < (Nat.cast (R := Int) l.length)))), RV.d (DV.bool true)), (RV.d (DV.agg (List.take 4 (List.drop 0 (l.getD (Nat.cast (R := Int) j).toNat DV.nilp).cells))), RV.d (DV.agg [DV.str x.1, DV.lst 3 (List.map vD x.2) false, DV.lst 3 (List.map vD x.3) false, DV.lst 3 (List.map vD x.4) false])), (RV.d (DV.bool (nilB { t := x.1, k := List.map toVal (List.map vD x.k), o := List.map toVal (List.map vD x.o), n := List.map toVal (List.map vD x.n) })), RV.d (DV.bool (nilB x))), (RV.d (DV.bool !nilB x), RV.d (DV.bool false)), (RV.d (DV.int Go.IntKind.i64 (Go.IntKind.i64.wrap ((Nat.cast (R := Int) j) + 1))), RV.d (DV.int Go.IntKind.i64 (Nat.cast (R := Int) (j + 1))))] rfl (by kernel_rfl : runSegA (cfB ts5b) 1000 0 _ _ _ _ (de1 l (i : Int) (j : Int)) = some (stackAt deC 0, de1 l (Nat.cast (R := Int) i) ((j + 1 : Nat) : Int), _, _)) (by refine ⟨?_, ?_, ?_, ?_, trivial⟩ <;> (first | exact bx1 | exact bx2 | exact bx3 | exact isC_chD hxo | exact decide_eq_true (by omega))) (by refine ⟨?_, ?_, ?_, le_bool h29, ?_, trivial⟩ <;> (first | exact le_bool (decide_eq_true (by omega)) | exact bx4 | exact hnb h29 | exact ov_succ (by omega))) ?_
      first | exact hA2 h29 | exact hB2 h29
  · have e : j = n := by omega
    subst e
    have e1 : L.take j = L := List.take_of_length_le (by omega)
    have e2 : L.drop j = [] := List.drop_eq_nil_of_le (by omega)
    rw [e1, e2, List.append_nil] at hll ⊢
    rw [e1] at hG hi
    obtain ⟨l, hl⟩ : ∃ l, (live L ++ G).map chD = l := ⟨_, rfl⟩
    have hclr : clr l i j = (live L).map chD ++ List.replicate (j - (live L).length) zD := by
      unfold clr
      rw [hi, ← hl, List.map_append, List.take_left' (by rw [List.length_map]; exact hi)]
      rw [List.drop_eq_nil_of_le (by simp only [List.length_append, List.length_map]; omega), List.append_nil]
    have hcl : (clr l i j).length = j := by rw [hclr]; simp only [List.length_append, List.length_map, List.length_replicate]; omega
    rw [hl] at hll ⊢
    rw [← hclr, hi]
    have hf : decide ((Nat.cast (R := Int) j) < ((l.length : Nat) : Int)) = false := decide_eq_false (by omega)
    have hrun : runEnd (cfB ts5b) false (Try.f72.results.toList) 1000 0 [(19, .d (.bool false))] (stackAt deC 0) (de1 l (i : Int) (j : Int)) = some (.sub 0 4 0 i, [.arr chT 4 (clr l i l.length)], [decide ((0 : Int) ≤ (i : Int) ∧ (i : Int) ≤ ((l.length : Nat) : Int)), decide (i + (l.length - i) ≤ l.length), decide ((0 : Int) ≤ (i : Int) ∧ (i : Int) ≤ (((clr l i l.length).length : Nat) : Int))], [(.d (.bool (decide ((Nat.cast (R := Int) j) < ((l.length : Nat) : Int)))), .d (.bool false))]) := by kernel_rfl
    refine WK.fin ok 1000 0 _ _ _ rfl hrun ⟨decide_eq_true (by omega), decide_eq_true (by omega), decide_eq_true (by rw [hll, hcl]; omega), trivial⟩ ⟨le_bool hf, trivial⟩ ⟨rfl, by rw [hll]; rfl⟩
set_option maxHeartbeats 2000000 in
theorem del_c (L : List Chg) (hok : okL L) : C Try.prog 72 [.own 0 4, delv] (arC (L.map chD)) (fun r o => r = .own 1 4 ∧ o = [.gone, .arr chT 4 ((live L).map chD)]) := by
  have ok := cfB_ok ts5b_ok
  obtain ⟨n, hn⟩ : ∃ n, L.length = n := ⟨_, rfl⟩
  have hn6 : n ≤ 65536 := by have := hok.1; omega
  have h1 := all_isC hok.2
  have h2 : decide ((L.map chD).length ≤ 65536) = true := decide_eq_true (by rw [List.length_map]; omega)
  cases hf : L.findIdx? nilB with
  | none =>
    have hlive : live L = L := live_nil (fun x hx => by rw [List.findIdx?_eq_none_iff] at hf; simpa using hf x hx)
    have hi : idxC L = -1 := by unfold idxC; rw [hf]
    have key := C.own1 (P := Try.prog) (f := 72) (args := [.own 0 4, delv]) (ty := chT) (sz := 4) (els := L.map chD) (els1 := L.map chD) (v0 := .own 0 4) ?_ (L.map chD).length (Nat.le_refl _) (.inr ⟨rfl, rfl⟩)
    · rw [hlive]; rw [List.take_length] at key; exact key
    refine C_of_run (fn := Try.f72) (body := deC) false (by kernel_rfl) (by kernel_rfl) (by kernel_rfl) ?_
    have hi2 : idxC ((L.map chD).map toChg) = -1 := by rw [unL_map]; exact hi
    obtain ⟨l, hl⟩ : ∃ l, L.map chD = l := ⟨_, rfl⟩
    show WK Try.prog 1 _ (ini 42 [.own 0 4, delv] [.arr chT 4 (L.map chD)]).den _
    rw [hl] at h1 h2 hi2 ⊢
    have hrun : runEnd (cfB ts5b) false (Try.f72.results.toList) 1000 0 [(12, .d (.bool true))] [.code deC] (ini 42 [.own 0 4, delv] [.arr chT 4 l]) = some (.own 0 4, [.arr chT 4 l], [true, true, l.all isC, decide (l.length ≤ 65536)], [(.d (.bool (idxC (l.map toChg) == -1)), .d (.bool true))]) := by kernel_rfl
    exact WK.fin ok 1000 0 _ _ _ rfl hrun ⟨rfl, rfl, h1, h2, trivial⟩ ⟨le_bool (by rw [hi2]; rfl), trivial⟩ ⟨rfl, rfl⟩
  | some i =>
    rw [List.findIdx?_eq_some_iff_getElem] at hf
    obtain ⟨hil, hb, hpre⟩ := hf
    have hi : idxC L = i := by
      unfold idxC
      rw [(List.findIdx?_eq_some_iff_getElem).2 ⟨hil, hb, hpre⟩]
    have hi2 : idxC ((L.map chD).map toChg) = i := by rw [unL_map]; exact hi
    have lv : live (L.take (i + 1)) = L.take i := by
      have tx : L.take (i + 1) = L.take i ++ [L[i]] := by rw [List.take_add_one, List.getElem?_eq_getElem hil]; rfl
      rw [tx, live_snoc, if_pos hb, List.append_nil]
      refine live_nil fun x hx => ?_
      obtain ⟨j, hj⟩ := List.getElem?_of_mem hx
      rw [List.getElem?_take] at hj
      split at hj
      · rename_i hji
        rw [List.getElem?_eq_getElem (by omega)] at hj
        injection hj with hj
        have := hpre j hji
        rw [← hj]; simpa using this
      · cases hj
    have li : (L.take i).length = i := by rw [List.length_take]; omega
    have hkl : (live L).length ≤ L.length := List.length_filter_le _ _
    have key := C.own1 (P := Try.prog) (f := 72) (args := [.own 0 4, delv]) (ty := chT) (sz := 4) (els := (live L).map chD ++ List.replicate (n - (live L).length) zD) (els1 := L.map chD) (v0 := .sub 0 4 0 (live L).length) ?_ (live L).length (by simp) (.inl rfl)
    · rw [List.take_left' (by rw [List.length_map])] at key; exact key
    refine C_of_run (fn := Try.f72) (body := deC) false (by kernel_rfl) (by kernel_rfl) (by kernel_rfl) ?_
    have hl0 := de_loop L hok n hn (i + 1) [L[i]] (by omega) (by rw [lv, li]; rfl)
    rw [lv, li] at hl0
    have e0 : L.take i ++ ([L[i]] ++ L.drop (i + 1)) = L := by
      have tx : L.take (i + 1) = L.take i ++ [L[i]] := by rw [List.take_add_one, List.getElem?_eq_getElem hil]; rfl
      rw [← List.append_assoc, ← tx, List.take_append_drop]
    rw [e0] at hl0
    obtain ⟨l, hl⟩ : ∃ l, L.map chD = l := ⟨_, rfl⟩
    obtain ⟨k, hk⟩ : ∃ k, (live L).length = k := ⟨_, rfl⟩
    obtain ⟨T, hT⟩ : ∃ T, (live L).map chD ++ List.replicate (n - (live L).length) zD = T := ⟨_, rfl⟩
    show WK Try.prog 1 _ (ini 42 [.own 0 4, delv] [.arr chT 4 (L.map chD)]).den _
    rw [hl] at h1 h2 hi2
    rw [hl, hT, hk] at hl0
    rw [hl, hT, hk]
    refine WK.segA ok 1000 0 [(12, RV.d (DV.bool false)), (5, RV.d (DV.int Go.IntKind.i64 (Nat.cast (R := Int) i))), (15, RV.d (DV.int Go.IntKind.i64 (Nat.cast (R := Int) (i + 1))))] [] [0, 1, 5, 6] [true, true, l.all isC, decide (l.length ≤ 65536)] [(RV.d (DV.int Go.IntKind.i64 (idxC (List.map toChg l))), RV.d (DV.int Go.IntKind.i64 (Nat.cast (R := Int) i))), (RV.d (DV.bool false), RV.d (DV.bool false)), (RV.d (DV.int Go.IntKind.i64 (Go.IntKind.i64.wrap ((Nat.cast (R := Int) i) + 1))), RV.d (DV.int Go.IntKind.i64 (Nat.cast (R := Int) (i + 1))))] rfl (by kernel_rfl : runSegA (cfB ts5b) 1000 0 _ _ _ _ (ini 42 [.own 0 4, delv] [.arr chT 4 l]) = some (stackAt deC 0, de1 l (i : Int) ((i + 1 : Nat) : Int), _, _)) (by refine ⟨?_, ?_, ?_, ?_, trivial⟩ <;> (first | rfl | exact h1 | exact h2)) (by refine ⟨?_, ?_, ?_, trivial⟩ <;> (first | exact le_bool rfl | exact .of_eq (by rw [hi2]) | exact ov_succ (by omega))) ?_
    exact hl0
/-- the entry: what is none is taken out -/
def delE : Ent := fun a o => match a, o with
  | [.own 0 4, .clo (.func f) [] []], [.arr T 4 els] => some (.own 1 4, [.gone, .arr T 4 ((live (els.map toChg)).map chD)], [Nat.beq T chT, Nat.beq f 73, els.all isC, decide (els.length ≤ 65536)])
  | _, _ => none
theorem del_ent : EntOk Try.prog 72 delE := by
  intro a o r o' c hg hc
  unfold delE at hg
  split at hg
  · rename_i f T els
    simp only [Option.some.injEq, Prod.mk.injEq] at hg
    obtain ⟨rfl, rfl, rfl⟩ := hg
    have hT := nbE (hc (Nat.beq T chT) (by simp))
    have hF := nbE (hc (Nat.beq f 73) (by simp))
    have h1 := hc (els.all isC) (by simp)
    have h6 := of_decide_eq_true (hc (decide (els.length ≤ 65536)) (by simp))
    subst hT hF
    obtain ⟨L, rfl, hLok⟩ := els_of h1 h6
    rw [unL_map]
    exact del_c L hLok
  · cases hg
end Go.Proofs.Ytljfolepmkcjlaa

/-
  A change's name, run; and that no two changes of different tables or keys have one name.
-/
namespace Go.Proofs.Ytljfolepmkcjlaa
open Go.RowKit Plain Am IntWalk
set_option maxRecDepth 100000
set_option linter.unusedVariables false
set_option linter.unusedSimpArgs false

noncomputable abbrev wsC : Code := bodyOf Try.f53
noncomputable abbrev wbC : Code := bodyOf Try.f86
noncomputable abbrev foC : Code := bodyOf Try.f99
noncomputable abbrev eiC : Code := bodyOf Try.f85
noncomputable abbrev naC : Code := bodyOf Try.f71
abbrev blT : Nat := 72
abbrev u8T : Nat := 5
def wsE : Ent := fun a o => match a, o with
  | [.ptr 0 0, .d (.str x)], [.box T [.ptr 0 0, .own 1 1], .arr E 1 els] => some (.tup [.d (.int .i64 x.length), .d .nili], [.box T [.ptr 0 0, .own 2 1], .gone, .arr E 1 (els ++ u8s x)], [Nat.beq T blT, Nat.beq E u8T, decide (els.length + x.length ≤ 1000000000)])
  | [.ptr 0 0, .d (.str x)], [.box T [.d .nilp, .d (.lst 0 [] true)]] => some (.tup [.d (.int .i64 x.length), .d .nili], [.box T [.ptr 0 0, .own 1 1], .arr u8T 1 (u8s x)], [Nat.beq T blT, decide (x.length ≤ 1000000000)])
  | _, _ => none
def wbE : Ent := fun a o => match a, o with
  | [.ptr 0 0, .d (.int .u8 c)], [.box T [.ptr 0 0, .own 1 1], .arr E 1 els] => some (.d .nili, [.box T [.ptr 0 0, .own 2 1], .gone, .arr E 1 (els ++ [.int .u8 c])], [Nat.beq T blT, Nat.beq E u8T, decide (els.length ≤ 1000000000)])
  | _, _ => none
def fourB (v : Int) : Bs := [UInt8.ofNat (IntKind.u8.wrap (v.fdiv 16777216)).toNat, UInt8.ofNat (IntKind.u8.wrap (v.fdiv 65536)).toNat, UInt8.ofNat (IntKind.u8.wrap (v.fdiv 256)).toNat, UInt8.ofNat (IntKind.u8.wrap v).toNat]
def eightB (v : Int) : Bs := fourB (IntKind.u32.wrap (v.fdiv 4294967296)) ++ fourB (IntKind.u32.wrap v)
def fourG : DV → Option (DV × List Bool)
  | .int .u32 v => some (.str (fourB v), [])
  | _ => none
def eightG : DV → Option (DV × List Bool)
  | .int .u64 v => some (.str (eightB v), [])
  | _ => none
def nm1 (s : Bs) (k : List Val) (i : Int) : ESt := { n := 41, m := 0, regs := T.mk [(3, .ptr 200 0), (16, .d (rD k)), (17, .d (.int .i64 ((k.map vD).length : Int))), (18, .d (.int .i64 i))], objs := T.mk [(200, .box blT [.ptr 200 0, .own 201 1]), (201, .arr u8T 1 (u8s s))] }
noncomputable def ts6 : List (Nat × Ent) := [(53, wsE), (86, wbE), (56, strE), (85, e1 eightG)]
theorem u8s_len (s : Bs) : (u8s s).length = s.length := by simp [u8s]
theorem u8s_app (a b : Bs) : u8s (a ++ b) = u8s a ++ u8s b := by simp [u8s]
theorem u8s_byte (s : Bs) : (u8s s).map DV.byte = s := by
  unfold u8s
  rw [List.map_map]
  conv => rhs; rw [← List.map_id s]
  apply List.map_congr_left
  intro b _
  simp only [Function.comp_apply, DV.byte, Int.toNat_natCast, UInt8.ofNat_toNat, id]
theorem u8s_isB (s : Bs) : (u8s s).all isB = true := by
  simp only [u8s, List.all_eq_true, List.mem_map]
  rintro x ⟨b, _, rfl⟩
  simp only [isB, decide_eq_true_eq]
  have := b.toNat_lt
  omega
theorem u8s_ne {s : Bs} (h : 1 ≤ s.length) : (!(u8s s).isEmpty) = true := by
  cases s with
  | nil => simp at h
  | cons a r => rfl
theorem ws_ent : EntOk Try.prog 53 wsE := by
  have ok := cfT_ok tb_ok
  intro a o r o' c hg hc
  unfold wsE at hg
  split at hg
  · rename_i x T E els
    simp only [Option.some.injEq, Prod.mk.injEq] at hg
    obtain ⟨rfl, rfl, rfl⟩ := hg
    have hT := nbE (hc (Nat.beq T blT) (by simp))
    have hE := nbE (hc (Nat.beq E u8T) (by simp))
    have h1 := of_decide_eq_true (hc (decide (els.length + x.length ≤ 1000000000)) (by simp))
    subst hT hE
    refine C_of_run (fn := Try.f53) (body := wsC) false (by kernel_rfl) (by kernel_rfl) (by kernel_rfl) ?_
    exact WK.fin ok 1000 0 [] [decide ((els.length + (u8s x).length) * 1 ≤ 2 ^ 38)] [] rfl (by kernel_rfl : runEnd (cfT tb) false _ 1000 0 _ _ (ini 19 [.ptr 0 0, .d (.str x)] [.box blT [.ptr 0 0, .own 1 1], .arr u8T 1 els]) = some (.tup [.d (.int .i64 x.length), .d .nili], [.box blT [.ptr 0 0, .own 2 1], .gone, .arr u8T 1 (els ++ u8s x)], _, _)) ⟨decide_eq_true (by rw [u8s_len]; omega), trivial⟩ trivial ⟨rfl, rfl⟩
  · rename_i x T
    simp only [Option.some.injEq, Prod.mk.injEq] at hg
    obtain ⟨rfl, rfl, rfl⟩ := hg
    have hT := nbE (hc (Nat.beq T blT) (by simp))
    have h1 := of_decide_eq_true (hc (decide (x.length ≤ 1000000000)) (by simp))
    subst hT
    refine C_of_run (fn := Try.f53) (body := wsC) false (by kernel_rfl) (by kernel_rfl) (by kernel_rfl) ?_
    exact WK.fin ok 1000 0 [] [decide ((0 + (u8s x).length) * 1 ≤ 2 ^ 38), true] [] rfl (by kernel_rfl : runEnd (cfT tb) false _ 1000 0 _ _ (ini 19 [.ptr 0 0, .d (.str x)] [.box blT [.d .nilp, .d (.lst 0 [] true)]]) = some (.tup [.d (.int .i64 x.length), .d .nili], [.box blT [.ptr 0 0, .own 1 1], .arr u8T 1 (u8s x)], _, _)) ⟨decide_eq_true (by rw [u8s_len]; omega), rfl, trivial⟩ trivial ⟨rfl, rfl⟩
  · cases hg
theorem wb_ent : EntOk Try.prog 86 wbE := by
  have ok := cfT_ok tb_ok
  intro a o r o' c hg hc
  unfold wbE at hg
  split at hg
  · rename_i x T E els
    simp only [Option.some.injEq, Prod.mk.injEq] at hg
    obtain ⟨rfl, rfl, rfl⟩ := hg
    have hT := nbE (hc (Nat.beq T blT) (by simp))
    have hE := nbE (hc (Nat.beq E u8T) (by simp))
    have h1 := of_decide_eq_true (hc (decide (els.length ≤ 1000000000)) (by simp))
    subst hT hE
    refine C_of_run (fn := Try.f86) (body := wbC) false (by kernel_rfl) (by kernel_rfl) (by kernel_rfl) ?_
    exact WK.fin ok 1000 0 [] [decide ((els.length + 1) * 1 ≤ 2 ^ 38)] [] rfl (by kernel_rfl : runEnd (cfT tb) false _ 1000 0 _ _ (ini 17 [.ptr 0 0, .d (.int .u8 x)] [.box blT [.ptr 0 0, .own 1 1], .arr u8T 1 els]) = some (.d .nili, [.box blT [.ptr 0 0, .own 2 1], .gone, .arr u8T 1 (els ++ [.int .u8 x])], _, _)) ⟨decide_eq_true (by omega), trivial⟩ trivial ⟨rfl, rfl⟩
  · cases hg
theorem four_ent : EntOk Try.prog 99 (e1 fourG) := by
  have ok := cfT_ok tb_ok
  refine e1_ok fun x y c hg hc => ?_
  unfold fourG at hg
  split at hg
  · rename_i v
    simp only [Option.some.injEq, Prod.mk.injEq] at hg
    obtain ⟨rfl, rfl⟩ := hg
    refine C_of_run (fn := Try.f99) (body := foC) true (by kernel_rfl) (by kernel_rfl) (by kernel_rfl) ?_
    exact WK.fin ok 1000 0 [] [true, true, true, true, true, true, true] [] rfl (by kernel_rfl : runEnd (cfT tb) true _ 1000 0 _ _ (ini 18 [.d (.int .u32 v)] []) = some (.d (.str (fourB v)), [], _, _)) ⟨rfl, rfl, rfl, rfl, rfl, rfl, rfl, trivial⟩ trivial ⟨rfl, rfl⟩
  · cases hg
theorem eight_ent : EntOk Try.prog 85 (e1 eightG) := by
  have ok := cfT_ok (l := [(99, e1 fourG)]) (.cons four_ent .nil)
  refine e1_ok fun x y c hg hc => ?_
  unfold eightG at hg
  split at hg
  · rename_i v
    simp only [Option.some.injEq, Prod.mk.injEq] at hg
    obtain ⟨rfl, rfl⟩ := hg
    refine C_of_run (fn := Try.f85) (body := eiC) true (by kernel_rfl) (by kernel_rfl) (by kernel_rfl) ?_
    exact WK.fin ok 1000 0 [] [true, true] [] rfl (by kernel_rfl : runEnd (cfT [(99, e1 fourG)]) true _ 1000 0 _ _ (ini 11 [.d (.int .u64 v)] []) = some (.d (.str (eightB v)), [], _, _)) ⟨rfl, rfl, trivial⟩ trivial ⟨rfl, rfl⟩
  · cases hg
theorem ts6_ok : EntsOk Try.prog ts6 := .cons ws_ent (.cons wb_ent (.cons str_ent (.cons eight_ent .nil)))

/-- a value's part of a name -/
def nmV (v : Val) : Bs := UInt8.ofNat v.k.toNat :: (eightB (IntKind.u64.wrap v.n) ++ eightB (IntKind.u64.wrap (Nat.cast (R := Int) v.s.length)) ++ v.s)
def nmT (t : Bs) : Bs := eightB (IntKind.u64.wrap (Nat.cast (R := Int) t.length)) ++ t
def nameB (x : Chg) : Bs := nmT x.t ++ x.k.flatMap nmV
theorem eightB_len (v : Int) : (eightB v).length = 8 := rfl
theorem nmV_len (v : Val) : (nmV v).length = 17 + v.s.length := by simp [nmV, eightB_len]; omega
theorem flat_len (l : List Val) (h : ∀ v ∈ l, v.s.length ≤ 1000) : (l.flatMap nmV).length ≤ 1017 * l.length := by
  induction l with
  | nil => simp
  | cons v r ih =>
    rw [List.flatMap_cons, List.length_append, nmV_len, List.length_cons]
    have := ih (fun z hz => h z (by simp [hz]))
    have := h v (by simp)
    omega
theorem mayC_spec {c : Chg} (h : mayC c = true) : c.t.length ≤ 32 ∧ c.k.length ≤ 16 ∧ (∀ v ∈ c.k, chk v = 0) ∧ (∀ v ∈ c.k, v.s.length ≤ 1000) := by
  simp only [mayC, Bool.and_eq_true, rowB, decide_eq_true_eq] at h
  have h2 := chkRow_zero (putRow_ok h.1.1.2).1
  exact ⟨h.1.1.1.1.1.2, h2.1, h2.2, fun v hv => (chk_zero (h2.2 v hv)).2.2.2⟩
theorem u8_of {z : Int} (h0 : 0 ≤ z) (h1 : z ≤ 255) : (u8s [UInt8.ofNat z.toNat]) = [.int .u8 z] := by
  simp only [u8s, List.map_cons, List.map_nil]
  rw [UInt8.toNat_ofNat_of_lt' (by simp only [UInt8.size]; omega), Int.toNat_of_nonneg h0]
set_option maxHeartbeats 2000000 in
theorem name_c (x : Chg) (hx : Chg.ok x) (hm : mayC x = true) : C Try.prog 71 [.d (chD x)] [] (fun r o => r = .d (.str (nameB x)) ∧ o = []) := by
  have ok := cfT_ok ts6_ok
  obtain ⟨m1, m2, m3, m4⟩ := mayC_spec hm
  refine C_of_run (fn := Try.f71) (body := naC) true (by kernel_rfl) (by kernel_rfl) (by kernel_rfl) ?_
  have hloop : WK Try.prog 0 (stackAt naC 0) (nm1 (nmT x.t) x.k 0).den (Ends (Try.f71.results.toList) (.d (.str (nameB x)))) := by
    have hwf := hx.1.1
    obtain ⟨k, hk⟩ : ∃ k, x.k = k := ⟨_, rfl⟩
    rw [hk] at m2 m3 m4 hwf ⊢
    have key := WK.rec' (P := Try.prog) (m := 0) (k := stackAt naC 0) (Q := Ends (Try.f71.results.toList) (.d (.str (nameB x)))) (fun (i : Nat) => nm1 (nmT x.t ++ (k.take i).flatMap nmV) k (i : Int)) (fun i => i ≤ k.length) (fun i => k.length - i) ?_ 0 (Nat.zero_le _)
    · simpa using key
    intro i hi ih
    obtain ⟨s, hs⟩ : ∃ s, nmT x.t ++ (k.take i).flatMap nmV = s := ⟨_, rfl⟩
    have hsl : 8 ≤ s.length ∧ s.length ≤ 20000 := by
      have := flat_len (k.take i) (fun v hv => m4 v (List.mem_of_mem_take hv))
      have h2 : (k.take i).length ≤ 16 := by rw [List.length_take]; omega
      have h3 : (nmT x.t).length = 8 + x.t.length := by simp only [nmT, List.length_append, eightB_len]
      rw [← hs, List.length_append]
      omega
    by_cases hlt : i < k.length
    · obtain ⟨w, hw⟩ : ∃ w, k[i] = w := ⟨_, rfl⟩
      have hwm : w ∈ k := by rw [← hw]; exact List.getElem_mem _
      have hws := m4 w hwm
      obtain ⟨k0, k1, _, _⟩ := hwf w hwm
      have hwl : (eightB (IntKind.u64.wrap w.n) ++ eightB (IntKind.u64.wrap (Nat.cast (R := Int) w.s.length))).length = 16 := rfl
      have hwl2 : (eightB (IntKind.u64.wrap w.n) ++ eightB (IntKind.u64.wrap (Nat.cast (R := Int) w.s.length)) ++ w.s).length = 16 + w.s.length := by rw [List.length_append, hwl]
      have hul := u8s_len s
      have hnx := ih (i + 1) hlt (by omega)
      have tx : k.take (i + 1) = k.take i ++ [w] := by rw [List.take_add_one, List.getElem?_eq_getElem hlt, hw]; rfl
      have e1 : nmT x.t ++ (k.take (i + 1)).flatMap nmV = s ++ nmV w := by
        rw [tx, List.flatMap_append, ← List.append_assoc, hs]; simp
      have e2 : u8s (s ++ nmV w) = u8s s ++ [.int .u8 w.k] ++ u8s (eightB (IntKind.u64.wrap w.n) ++ eightB (IntKind.u64.wrap (Nat.cast (R := Int) w.s.length)) ++ w.s) := by
        rw [u8s_app, ← u8_of k0 k1, List.append_assoc, ← u8s_app [_]]
        rfl
      rw [e1] at hnx
      have hnx2 : WK Try.prog 0 (stackAt naC 0) ({ n := 41, m := 0, regs := T.mk [(3, .ptr 200 0), (16, .d (rD k)), (17, .d (.int .i64 ((k.map vD).length : Int))), (18, .d (.int .i64 ((i + 1 : Nat) : Int)))], objs := T.mk [(200, .box blT [.ptr 200 0, .own 201 1]), (201, .arr u8T 1 (u8s s ++ [.int .u8 w.k] ++ u8s (eightB (IntKind.u64.wrap w.n) ++ eightB (IntKind.u64.wrap (Nat.cast (R := Int) w.s.length)) ++ w.s)))] } : ESt).den (Ends (Try.f71.results.toList) (.d (.str (nameB x)))) := by
        rw [← e2]; exact hnx
      rw [hs]
      clear hnx e1 e2 ih
      refine WK.segA ok 1000 0 [(19, RV.d (DV.bool true)), (20, RV.iptr (DV.agg [DV.int Go.IntKind.u8 w.1, DV.int Go.IntKind.i64 w.2, DV.str w.3]) 0), (39, RV.d (DV.int Go.IntKind.i64 (Nat.cast (R := Int) (i + 1))))] [] [3, 16, 17, 18] [decide (0 ≤ (Nat.cast (R := Int) i) ∧ (Nat.cast (R := Int) i) < (Nat.cast (R := Int) (List.map vD k).length)), true, true, decide ((u8s s).length ≤ 1000000000), true, decide ((eightB (Go.IntKind.u64.wrap w.n) ++ eightB (Go.IntKind.u64.wrap (Nat.cast (R := Int) (List.length w.s)))).length + List.length w.s ≤ 2 ^ 62), true, true, decide ((u8s s ++ [DV.int Go.IntKind.u8 w.k]).length + (eightB (Go.IntKind.u64.wrap w.n) ++ eightB (Go.IntKind.u64.wrap (Nat.cast (R := Int) (List.length w.s))) ++ w.s).length ≤ 1000000000)] [(RV.d (DV.bool (decide ((Nat.cast (R := Int) i) < (Nat.cast (R := Int) (List.map vD k).length)))), RV.d (DV.bool true)), (RV.iptr ((List.map vD k).getD (Nat.cast (R := Int) i).toNat DV.nilp) 0, RV.iptr (DV.agg [DV.int Go.IntKind.u8 w.1, DV.int Go.IntKind.i64 w.2, DV.str w.3]) 0), (RV.d (DV.int Go.IntKind.i64 (Go.IntKind.i64.wrap ((Nat.cast (R := Int) i) + 1))), RV.d (DV.int Go.IntKind.i64 (Nat.cast (R := Int) (i + 1))))] rfl (by kernel_rfl : runSegA (cfT ts6) 1000 0 _ _ _ _ (nm1 s k (i : Int)) = some (stackAt naC 0, { n := 41, m := 0, regs := T.mk [(3, .ptr 200 0), (16, .d (rD k)), (17, .d (.int .i64 ((k.map vD).length : Int))), (18, .d (.int .i64 ((i + 1 : Nat) : Int)))], objs := T.mk [(200, .box blT [.ptr 200 0, .own 201 1]), (201, .arr u8T 1 (u8s s ++ [.int .u8 w.k] ++ u8s (eightB (IntKind.u64.wrap w.n) ++ eightB (IntKind.u64.wrap (Nat.cast (R := Int) w.s.length)) ++ w.s)))] }, _, _)) (by refine ⟨?_, ?_, ?_, ?_, ?_, ?_, ?_, ?_, ?_, trivial⟩ <;> (first | rfl | exact bd_map hlt | (refine decide_eq_true ?_; simp only [List.length_append, List.length_singleton, eightB_len, hul]; omega))) (by refine ⟨?_, ?_, ?_, trivial⟩ <;> (first | (refine le_bool (decide_eq_true ?_); rw [List.length_map]; omega) | exact ov_val hlt hw | exact ov_succ (by omega))) ?_
      exact hnx2
    · have e : i = k.length := by omega
      have en : s = nameB x := by rw [← hs, List.take_of_length_le (by omega), ← hk]; rfl
      rw [hs, ← en]
      have hul := u8s_len s
      exact WK.fin ok 1000 0 [(19, RV.d (DV.bool false)), (40, RV.d (DV.str s))] [(u8s s).all isB, !(u8s s).isEmpty, decide ((u8s s).length ≤ 1099511627776)] [(RV.d (DV.bool (decide ((Nat.cast (R := Int) i) < (Nat.cast (R := Int) (List.map vD k).length)))), RV.d (DV.bool false)), (RV.d (DV.str (List.map DV.byte (u8s s))), RV.d (DV.str s))] rfl (by kernel_rfl : runEnd (cfT ts6) true _ 1000 0 _ _ (nm1 s k (i : Int)) = some (RV.d (DV.str s), [], _, _)) (by refine ⟨?_, ?_, ?_, trivial⟩ <;> (first | exact u8s_isB s | exact u8s_ne (by omega) | exact decide_eq_true (by omega))) (by refine ⟨?_, ?_, trivial⟩ <;> (first | (refine le_bool (decide_eq_false ?_); rw [List.length_map]; omega) | exact .of_eq (by rw [u8s_byte]))) ⟨rfl, rfl⟩
  obtain ⟨T, hT⟩ : ∃ T, nameB x = T := ⟨_, rfl⟩
  rw [hT] at hloop ⊢
  have hel : (eightB (IntKind.u64.wrap (Nat.cast (R := Int) x.t.length))).length = 8 := rfl
  refine WK.segA ok 1000 0 [] [] [3, 16, 17, 18] [decide (List.length (eightB (Go.IntKind.u64.wrap (Nat.cast (R := Int) (List.length x.t)))) + List.length x.t ≤ 2 ^ 62), true, decide ((eightB (Go.IntKind.u64.wrap (Nat.cast (R := Int) (List.length x.t))) ++ x.t).length ≤ 1000000000)] [] rfl (by kernel_rfl : runSegA (cfT ts6) 1000 0 _ _ _ _ (ini 41 [.d (chD x)] []) = some (stackAt naC 0, nm1 (eightB (IntKind.u64.wrap (Nat.cast (R := Int) x.t.length)) ++ x.t) x.k 0, _, _)) (by refine ⟨?_, ?_, ?_, trivial⟩ <;> (first | rfl | (refine decide_eq_true ?_; simp only [List.length_append, hel]; omega))) trivial ?_
  exact hloop

/-! ### No two have one name -/
theorem fourB_inj {a b : Int} (ha : 0 ≤ a ∧ a < 4294967296) (hb : 0 ≤ b ∧ b < 4294967296) (h : fourB a = fourB b) : a = b := by
  have key : ∀ {x y : Int}, UInt8.ofNat (IntKind.u8.wrap x).toNat = UInt8.ofNat (IntKind.u8.wrap y).toNat → x % 256 = y % 256 := by
    intro x y e
    have e2 := congrArg UInt8.toNat e
    rw [IntKind.wrap_u8, IntKind.wrap_u8] at e2
    rw [UInt8.toNat_ofNat_of_lt' (by simp only [UInt8.size]; omega), UInt8.toNat_ofNat_of_lt' (by simp only [UInt8.size]; omega)] at e2
    omega
  unfold fourB at h
  injection h with h1 h; injection h with h2 h; injection h with h3 h; injection h with h4 h
  have k1 := key h1; have k2 := key h2; have k3 := key h3; have k4 := key h4
  rw [Int.fdiv_eq_ediv_of_nonneg _ (by omega), Int.fdiv_eq_ediv_of_nonneg _ (by omega)] at k1 k2 k3
  omega
theorem eightB_inj {a b : Int} (ha : 0 ≤ a ∧ a < 18446744073709551616) (hb : 0 ≤ b ∧ b < 18446744073709551616) (h : eightB a = eightB b) : a = b := by
  unfold eightB at h
  obtain ⟨h1, h2⟩ := List.append_inj h rfl
  have k1 := fourB_inj (by rw [IntKind.wrap_u32]; omega) (by rw [IntKind.wrap_u32]; omega) h1
  have k2 := fourB_inj (by rw [IntKind.wrap_u32]; omega) (by rw [IntKind.wrap_u32]; omega) h2
  rw [IntKind.wrap_u32, IntKind.wrap_u32, Int.fdiv_eq_ediv_of_nonneg _ (by omega), Int.fdiv_eq_ediv_of_nonneg _ (by omega)] at k1
  rw [IntKind.wrap_u32, IntKind.wrap_u32] at k2
  omega
theorem u64_rng (z : Int) : 0 ≤ IntKind.u64.wrap z ∧ IntKind.u64.wrap z < 18446744073709551616 := by rw [IntKind.wrap_u64]; omega
theorem eight_len_inj {a b : Nat} (ha : a ≤ 1000000) (hb : b ≤ 1000000) (h : eightB (IntKind.u64.wrap (Nat.cast (R := Int) a)) = eightB (IntKind.u64.wrap (Nat.cast (R := Int) b))) : a = b := by
  have := eightB_inj (u64_rng _) (u64_rng _) h
  rw [IntKind.wrap_u64, IntKind.wrap_u64] at this
  omega
theorem nmV_inj {v w : Val} {r q : Bs} (hv : v.wf) (hw : w.wf) (lv : v.s.length ≤ 1000) (lw : w.s.length ≤ 1000) (h : nmV v ++ r = nmV w ++ q) : v = w ∧ r = q := by
  unfold nmV at h
  rw [List.cons_append, List.cons_append] at h
  injection h with h1 h
  rw [List.append_assoc, List.append_assoc, List.append_assoc, List.append_assoc] at h
  obtain ⟨h2, h⟩ := List.append_inj h rfl
  obtain ⟨h3, h⟩ := List.append_inj h rfl
  have e3 := eight_len_inj (by omega) (by omega) h3
  obtain ⟨h4, h5⟩ := List.append_inj h e3
  have e2 := eightB_inj (u64_rng _) (u64_rng _) h2
  rw [IntKind.wrap_u64, IntKind.wrap_u64] at e2
  obtain ⟨a1, a2, a3, a4⟩ := hv
  obtain ⟨b1, b2, b3, b4⟩ := hw
  have e1 := congrArg UInt8.toNat h1
  rw [UInt8.toNat_ofNat_of_lt' (by simp only [UInt8.size]; omega), UInt8.toNat_ofNat_of_lt' (by simp only [UInt8.size]; omega)] at e1
  refine ⟨?_, h5⟩
  obtain ⟨vk, vn, vs⟩ := v
  obtain ⟨wk, wn, ws⟩ := w
  simp only at *
  have f1 : vk = wk := by omega
  have f2 : vn = wn := by omega
  subst f1 f2 h4; rfl
theorem flat_inj : ∀ {a b : List Val}, (∀ v ∈ a, v.wf) → (∀ v ∈ b, v.wf) → (∀ v ∈ a, v.s.length ≤ 1000) → (∀ v ∈ b, v.s.length ≤ 1000) → a.flatMap nmV = b.flatMap nmV → a = b
  | [], [], _, _, _, _, _ => rfl
  | [], w :: q, _, _, _, _, h => by simp [nmV] at h
  | v :: r, [], _, _, _, _, h => by simp [nmV] at h
  | v :: r, w :: q, h1, h2, h3, h4, h => by
    rw [List.flatMap_cons, List.flatMap_cons] at h
    obtain ⟨e1, e2⟩ := nmV_inj (h1 v (by simp)) (h2 w (by simp)) (h3 v (by simp)) (h4 w (by simp)) h
    rw [e1, flat_inj (a := r) (b := q) (fun z hz => h1 z (by simp [hz])) (fun z hz => h2 z (by simp [hz])) (fun z hz => h3 z (by simp [hz])) (fun z hz => h4 z (by simp [hz])) e2]
theorem name_iff {x y : Chg} (hx : Chg.ok x) (hy : Chg.ok y) (mx : mayC x = true) (my : mayC y = true) : nameB x = nameB y ↔ x.t = y.t ∧ x.k = y.k := by
  constructor
  · intro h
    obtain ⟨a1, a2, a3, a4⟩ := mayC_spec mx
    obtain ⟨b1, b2, b3, b4⟩ := mayC_spec my
    unfold nameB nmT at h
    rw [List.append_assoc, List.append_assoc] at h
    obtain ⟨h1, h⟩ := List.append_inj h rfl
    have e1 := eight_len_inj (by omega) (by omega) h1
    obtain ⟨h2, h3⟩ := List.append_inj h e1
    exact ⟨h2, flat_inj hx.1.1 hy.1.1 a4 b4 h3⟩
  · rintro ⟨h1, h2⟩
    unfold nameB; rw [h1, h2]
def nameG : DV → Option (DV × List Bool) := fun x => some (.str (nameB (toChg x)), [isC x, mayC (toChg x)])
theorem name_ent : EntOk Try.prog 71 (e1 nameG) := by
  refine e1_ok fun x y c hg hc => ?_
  simp only [nameG, Option.some.injEq, Prod.mk.injEq] at hg
  obtain ⟨rfl, rfl⟩ := hg
  obtain ⟨a, rfl, wa⟩ := isC_spec (hc (isC x) (by simp))
  have hm := hc (mayC (toChg (chD a))) (by simp)
  rw [toChg_chD] at hm ⊢
  exact name_c a wa hm
end Go.Proofs.Ytljfolepmkcjlaa

/-
  Changes of whatever size, as a law is handed them.
-/
namespace Go.Proofs.Ytljfolepmkcjlaa
open Go.RowKit Plain Am IntWalk
set_option maxRecDepth 100000

def isRw : DV → Bool
  | .lst sz els full => els.all isVal && decide (sz = 3) && !full
  | _ => false
def isCw : DV → Bool
  | .agg [.str _, a, b, c] => isRw a && isRw b && isRw c
  | _ => false
def isLw : DV → Bool
  | .lst sz els full => decide (els.length ≤ 9223372036854775807) && els.all isCw && decide (sz = 4) && !full
  | _ => false
theorem isRw_spec {x : DV} (h : isRw x = true) : ∃ l, x = rD l ∧ ∀ v ∈ l, v.wf := by
  unfold isRw at h
  split at h
  · rename_i sz els full
    simp only [Bool.and_eq_true, decide_eq_true_eq, Bool.not_eq_true', List.all_eq_true] at h
    obtain ⟨⟨h1, rfl⟩, rfl⟩ := h
    obtain ⟨g1, g2⟩ := map_toRow h1
    exact ⟨toRow els, by rw [rD, ← g1], g2⟩
  · cases h
theorem isCw_spec {x : DV} (h : isCw x = true) : ∃ c, x = chD c ∧ c.wf := by
  unfold isCw at h
  split at h
  · rename_i t a b c
    simp only [Bool.and_eq_true] at h
    obtain ⟨⟨h1, h2⟩, h3⟩ := h
    obtain ⟨k, rfl, w1⟩ := isRw_spec h1
    obtain ⟨o, rfl, w2⟩ := isRw_spec h2
    obtain ⟨n, rfl, w3⟩ := isRw_spec h3
    exact ⟨⟨t, k, o, n⟩, rfl, w1, w2, w3⟩
  · cases h
theorem isLw_spec {x : DV} (h : isLw x = true) : ∃ l, x = chL l ∧ l.length ≤ 9223372036854775807 ∧ ∀ c ∈ l, c.wf := by
  unfold isLw at h
  split at h
  · rename_i sz els full
    simp only [Bool.and_eq_true, decide_eq_true_eq, Bool.not_eq_true', List.all_eq_true] at h
    obtain ⟨⟨⟨h1, h2⟩, rfl⟩, rfl⟩ := h
    have : ∃ l : List Chg, els = l.map chD ∧ ∀ c ∈ l, c.wf := by
      clear h1
      induction els with
      | nil => exact ⟨[], rfl, by simp⟩
      | cons x r ih =>
        obtain ⟨l, rfl, hl⟩ := ih (fun y hy => h2 y (by simp [hy]))
        obtain ⟨c, rfl, hc⟩ := isCw_spec (h2 x (by simp))
        exact ⟨c :: l, rfl, fun d hd => by
          rcases List.mem_cons.1 hd with rfl | hd
          · exact hc
          · exact hl d hd⟩
    obtain ⟨l, rfl, hl⟩ := this
    exact ⟨l, rfl, by simpa using h1, hl⟩
  · cases h
theorem isRw_rD {l : List Val} (hw : ∀ v ∈ l, v.wf) : isRw (rD l) = true := by
  simp only [isRw, Bool.and_eq_true, List.all_eq_true, List.mem_map]
  refine ⟨⟨?_, rfl⟩, rfl⟩
  rintro x ⟨v, hv, rfl⟩
  exact (wfB_iff v).2 (hw v hv)
theorem isLw_chL {l : List Chg} (hl : l.length ≤ 9223372036854775807) (hw : ∀ c ∈ l, c.wf) : isLw (chL l) = true := by
  simp only [isLw, chL, List.length_map, Bool.and_eq_true, decide_eq_true_eq, List.all_eq_true, List.mem_map]
  refine ⟨⟨⟨hl, ?_⟩, trivial⟩, rfl⟩
  rintro x ⟨c, hc, rfl⟩
  obtain ⟨w1, w2, w3⟩ := hw c hc
  simp only [chD, isCw, isRw_rD w1, isRw_rD w2, isRw_rD w3]; rfl
theorem nil_leM : RVle (.d (.lst 0 [] true)) (.d (.lst 4 [] false)) := by
  intro κ φ O h v r
  cases r with
  | d hr =>
    cases hr with
    | lst0 hf => exact .d (.lst0 (fun h => by cases h))
    | lst _ _ hf _ _ _ _ => have := (hf rfl).2; omega
theorem okL_nil : okL [] := ⟨by decide, by simp⟩
end Go.Proofs.Ytljfolepmkcjlaa

/-
  change.merge, run.
-/
namespace Go.Proofs.Ytljfolepmkcjlaa
open Go.RowKit Plain Am IntWalk
set_option maxRecDepth 100000
set_option linter.unusedVariables false
set_option linter.unusedSimpArgs false

noncomputable abbrev mgC : Code := bodyOf Try.f52
def mg1 (M : List (DV × DV)) (all l : List DV) (i : Int) : ESt := { n := 57, m := 0, regs := T.mk [(4, .map 200), (5, .own 201 4), (12, .d (.lst 4 l false)), (13, .d (.int .i64 (l.length : Int))), (14, .d (.int .i64 i))], objs := T.mk [(200, .map M), (201, .arr chT 4 all)] }
noncomputable def ts7 : List (Nat × Ent) := [(71, e1 nameG), (60, e2 eqG), (72, delE), (74, srtE)]
/-- the map of the names' places -/
def mapFrom : Nat → List Chg → List (DV × DV)
  | _, [] => []
  | k, x :: r => (.str (nameB x), .int .i64 k) :: mapFrom (k + 1) r
theorem ts7_ok : EntsOk Try.prog ts7 := .cons name_ent (.cons (eqG_ent same_c) (.cons del_ent (.cons srt_ent .nil)))
theorem und9 : (cfB ts7).E.und 9 = some .string := by kernel_rfl
theorem mapFrom_keys : ∀ (k : Nat) (A : List Chg), ((mapFrom k A).all fun p => keyOk ((cfB ts7).E.und 9) p.fst) = true
  | _, [] => rfl
  | k, x :: r => by
    simp only [mapFrom, List.all_cons, mapFrom_keys (k + 1) r, Bool.and_true]
    rw [und9]; rfl
/-- names tell keys, for x among A -/
def nameOk (A : List Chg) (x : Chg) : Prop := ∀ y ∈ A, (nameB x == nameB y) = keyB y x
theorem mget_none {x : Chg} : ∀ {A : List Chg} (k : Nat), nameOk A x → A.findIdx? (fun y => keyB y x) = none → mhas (.str (nameB x)) (mapFrom k A) = false ∧ ∀ v, mput (.str (nameB x)) v (mapFrom k A) = mapFrom k A ++ [(.str (nameB x), v)]
  | [], k, _, _ => ⟨rfl, fun _ => rfl⟩
  | y :: r, k, hn, h => by
    rw [List.findIdx?_cons] at h
    have hy := hn y (by simp)
    cases hk : keyB y x with
    | true => rw [hk] at h; simp at h
    | false =>
      rw [hk] at h hy
      have h2 : r.findIdx? (fun y => keyB y x) = none := by simpa using h
      obtain ⟨i1, i2⟩ := mget_none (k + 1) (fun z hz => hn z (by simp [hz])) h2
      have he : keq (.str (nameB x)) (.str (nameB y)) = false := hy
      refine ⟨?_, fun v => ?_⟩
      · show (keq (.str (nameB x)) (.str (nameB y)) || mhas _ (mapFrom (k + 1) r)) = false
        rw [he, i1]; rfl
      · show (bif keq (.str (nameB x)) (.str (nameB y)) then _ else _) = _
        rw [he, cond_false, i2 v]; rfl
theorem mget_some {x : Chg} : ∀ {A : List Chg} (k i : Nat), nameOk A x → A.findIdx? (fun y => keyB y x) = some i → mhas (.str (nameB x)) (mapFrom k A) = true ∧ ∀ z, mget (.str (nameB x)) z (mapFrom k A) = .int .i64 ((k + i : Nat) : Int)
  | [], k, i, _, h => by simp at h
  | y :: r, k, i, hn, h => by
    rw [List.findIdx?_cons] at h
    have hy := hn y (by simp)
    cases hk : keyB y x with
    | true =>
      rw [hk] at h hy
      simp only [if_true, Option.some.injEq] at h
      subst h
      have he : keq (.str (nameB x)) (.str (nameB y)) = true := hy
      refine ⟨?_, fun z => ?_⟩
      · show (keq (.str (nameB x)) (.str (nameB y)) || mhas _ (mapFrom (k + 1) r)) = true
        rw [he]; rfl
      · show (bif keq (.str (nameB x)) (.str (nameB y)) then _ else _) = _
        rw [he]; rfl
    | false =>
      rw [hk] at h hy
      have he : keq (.str (nameB x)) (.str (nameB y)) = false := hy
      cases h2 : r.findIdx? (fun y => keyB y x) with
      | none => rw [h2] at h; simp at h
      | some j =>
        rw [h2] at h
        simp only [Option.map_some] at h
        have hj : j + 1 = i := by simpa using h
        obtain ⟨i1, i2⟩ := mget_some (k + 1) j (fun z hz => hn z (by simp [hz])) h2
        refine ⟨?_, fun z => ?_⟩
        · show (keq (.str (nameB x)) (.str (nameB y)) || mhas _ (mapFrom (k + 1) r)) = true
          rw [i1, Bool.or_true]
        · show (bif keq (.str (nameB x)) (.str (nameB y)) then _ else _) = _
          rw [he, cond_false, i2 z, ← hj]
          congr 2; omega
theorem mapFrom_snoc (x : Chg) : ∀ (k : Nat) (A : List Chg), mapFrom k (A ++ [x]) = mapFrom k A ++ [(.str (nameB x), .int .i64 ((k + A.length : Nat) : Int))]
  | k, [] => by simp [mapFrom]
  | k, y :: r => by
    simp only [List.cons_append, mapFrom, mapFrom_snoc x (k + 1) r, List.length_cons]
    rw [show k + 1 + r.length = k + (r.length + 1) by omega]
theorem mapFrom_set {y z : Chg} (ht : z.t = y.t) (hk : z.k = y.k) : ∀ (k i : Nat) (A : List Chg), A[i]? = some y → mapFrom k (A.set i z) = mapFrom k A
  | k, i, [], h => by simp at h
  | k, 0, w :: r, h => by
    simp only [List.getElem?_cons_zero, Option.some.injEq] at h
    subst h
    simp only [List.set_cons_zero, mapFrom, nameB, ht, hk]
  | k, i + 1, w :: r, h => by
    rw [List.getElem?_cons_succ] at h
    simp only [List.set_cons_succ, mapFrom, mapFrom_set ht hk (k + 1) i r h]
/-- of the key of one that may be -/
def keyed (y : Chg) : Prop := ∃ z : Chg, Chg.ok z ∧ mayC z = true ∧ y.t = z.t ∧ y.k = z.k
theorem keyed_name {x y : Chg} (hx : Chg.ok x) (mx : mayC x = true) (hy : keyed y) : (nameB x == nameB y) = keyB y x := by
  obtain ⟨z, z1, z2, z3, z4⟩ := hy
  have e : nameB y = nameB z := by unfold nameB; rw [z3, z4]
  rw [e]
  have := name_iff hx z1 mx z2
  rw [Bool.eq_iff_iff, beq_iff_eq, this, keyB_iff, z3, z4]
  exact ⟨fun ⟨a, b⟩ => ⟨a.symm, b.symm⟩, fun ⟨a, b⟩ => ⟨a.symm, b.symm⟩⟩
theorem keyed_row {y : Chg} (hy : keyed y) : rowOk y.k := by
  obtain ⟨z, z1, z2, z3, z4⟩ := hy
  rw [z4]; exact mayC_key z2 z1.1
theorem ok_set {y x : Chg} (hy : Chg.ok y) (hx : Chg.ok x) : Chg.ok ⟨y.t, y.k, y.o, x.n⟩ := ⟨⟨hy.1.1, hy.1.2.1, hx.1.2.2⟩, hy.2.1, hy.2.2.1, hx.2.2.2⟩
theorem ov_nm {x : Chg} : RVle (.d (.str (nameB (toChg (chD x))))) (.d (.str (nameB x))) := .of_eq (by rw [toChg_chD])
theorem ov_fld {l : List Chg} {i : Nat} {x : Chg} (h : l[i]? = some x) : RVle (.d (((l.map chD).getD (Nat.cast (R := Int) i).toNat .nilp).cells.getD 3 .nilp)) (.d (rD x.n)) := .of_eq (by rw [Int.toNat_natCast, getD_of h]; rfl)
theorem set_fld {l : List Chg} {i : Nat} {x y : Chg} (h : l[i]? = some y) : (l.map chD).set i (.agg (splice (((l.map chD).getD i .nilp).cells) 3 [rD x.n])) = (l.set i ⟨y.t, y.k, y.o, x.n⟩).map chD := by
  rw [getD_of h, ← map_set']; rfl
abbrev EndsMg (L : List Chg) : SSt → Prop := Ends (Try.f52.results.toList) (.tup [.d (chL (mrgC L).1), .d (.int .i64 (mrgC L).2)])
theorem nokey_snoc {A : List Chg} {x : Chg} (h : nokey A) (hx : A.findIdx? (fun y => keyB y x) = none) : nokey (A ++ [x]) := by
  refine nokey_append.2 ⟨h, ⟨by simp, trivial⟩, fun y hy z hz => ?_⟩
  rw [List.mem_singleton.1 hz]
  rw [List.findIdx?_eq_none_iff] at hx
  exact hx y hy
theorem nokey_set {y z : Chg} (ht : z.t = y.t) (hk : z.k = y.k) : ∀ {A : List Chg} {i : Nat}, nokey A → A[i]? = some y → nokey (A.set i z)
  | [], i, _, h => by simp at h
  | w :: r, 0, hn, h => by
    simp only [List.getElem?_cons_zero, Option.some.injEq] at h
    subst h
    refine ⟨fun q hq => ?_, hn.2⟩
    have := hn.1 q hq
    simp only [keyB, ht, hk] at this ⊢; exact this
  | w :: r, i + 1, hn, h => by
    rw [List.getElem?_cons_succ] at h
    refine ⟨fun q hq => ?_, nokey_set ht hk hn.2 h⟩
    rcases List.mem_or_eq_of_mem_set hq with hq | rfl
    · exact hn.1 q hq
    · have := hn.1 y (List.mem_of_getElem? h)
      simp only [keyB, ht, hk] at this ⊢; exact this
set_option maxHeartbeats 4000000 in
theorem merge_c (L : List Chg) (hok : okL L) (hm : ∀ x ∈ L, mayC x = true) (hl6 : L.length ≤ 10000) : C Try.prog 52 [.d (chL L)] [] (fun r o => r = .tup [.d (chL (mrgC L).1), .d (.int .i64 (mrgC L).2)] ∧ o = []) := by
  have ok := cfB_ok ts7_ok
  refine C_of_run (fn := Try.f52) (body := mgC) true (by kernel_rfl) (by kernel_rfl) (by kernel_rfl) ?_
  have hloop : WK Try.prog 0 (stackAt mgC 0) (mg1 [] [] (L.map chD) 0).den (EndsMg L) := by
    have key := WK.rec' (P := Try.prog) (m := 0) (k := stackAt mgC 0) (Q := EndsMg L) (fun (q : Nat × List Chg) => mg1 (mapFrom 0 q.2) (q.2.map chD) (L.map chD) (q.1 : Int)) (fun q => q.1 ≤ L.length ∧ q.2.length ≤ q.1 ∧ mFold q.2 (L.drop q.1) = mFold [] L ∧ nokey q.2 ∧ (∀ y ∈ q.2, Chg.ok y ∧ keyed y)) (fun q => L.length - q.1) ?_ (0, []) ⟨Nat.zero_le _, Nat.le_refl _, rfl, trivial, by simp⟩
    · exact key
    rintro ⟨i, A⟩ ⟨hi, hA6, hfold, hnk, hA⟩ ih
    simp only at hi hA6 hfold hnk hA ih ⊢
    have hkeys := mapFrom_keys 0 A
    by_cases hlt : i < L.length
    · obtain ⟨x, hx⟩ : ∃ x, L[i] = x := ⟨_, rfl⟩
      have hxm : x ∈ L := by rw [← hx]; exact List.getElem_mem _
      have hxo := hok.2 x hxm
      have mx := hm x hxm
      have hname : nameOk A x := fun y hy => keyed_name hxo mx (hA y hy).2
      have ex : L.drop i = x :: L.drop (i + 1) := by rw [List.drop_eq_getElem_cons hlt, hx]
      rw [ex] at hfold
      have hmx : mayC (toChg (chD x)) = true := by rw [toChg_chD]; exact mx
      cases hf : A.findIdx? (fun y => keyB y x) with
      | none =>
        obtain ⟨g1, g2⟩ := mget_none 0 hname hf
        have hst : mStep A x = some (A ++ [x]) := by unfold mStep; rw [hf]
        simp only [mFold, hst] at hfold
        have hw := ih (i + 1, A ++ [x]) ⟨hlt, by simp only [List.length_append, List.length_singleton]; omega, hfold, nokey_snoc hnk hf, fun y hy => by
          rcases List.mem_append.1 hy with hy | hy
          · exact hA y hy
          · rw [List.mem_singleton.1 hy]; exact ⟨hxo, x, hxo, mx, rfl, rfl⟩⟩ (by simp only; omega)
        simp only [mapFrom_snoc, Nat.zero_add, List.map_append, List.map_cons, List.map_nil] at hw
        rw [← g2] at hw
        have hal : (A.map chD).length = A.length := List.length_map ..
        rw [← hal] at hw
        obtain ⟨all, hall⟩ : ∃ all, A.map chD = all := ⟨_, rfl⟩
        obtain ⟨M, hM⟩ : ∃ M, mapFrom 0 A = M := ⟨_, rfl⟩
        obtain ⟨nm, hnm⟩ : ∃ nm, nameB x = nm := ⟨_, rfl⟩
        have hon : RVle (.d (.str (nameB (toChg (chD x))))) (.d (.str nm)) := by rw [← hnm]; exact ov_nm
        have hb1 := bd_map (f := chD) hlt
        have hb2 := ov_chg hlt hx
        have hb3 : decide ((Nat.cast (R := Int) i) < (Nat.cast (R := Int) (L.map chD).length)) = true := decide_eq_true (by rw [List.length_map]; omega)
        obtain ⟨l, hl⟩ : ∃ l, L.map chD = l := ⟨_, rfl⟩
        rw [hall] at hw hal ⊢
        rw [hM] at hw g1 hkeys ⊢
        rw [hnm] at hw g1
        rw [hl] at hw hb1 hb2 hb3 ⊢
        clear ih g2 hname hfold hA
        refine WK.segA ok 1000 0 [(15, RV.d (DV.bool true)), (16, RV.iptr (DV.agg [DV.str x.1, DV.lst 3 (List.map vD x.2) false, DV.lst 3 (List.map vD x.3) false, DV.lst 3 (List.map vD x.4) false]) 0), (19, RV.d (DV.str nm)), (25, RV.d (DV.bool false)), (51, RV.d (DV.int Go.IntKind.i64 (Nat.cast (R := Int) (i + 1))))] [] [4, 5, 12, 13, 14] [decide (0 ≤ (Nat.cast (R := Int) i) ∧ (Nat.cast (R := Int) i) < (Nat.cast (R := Int) l.length)), isC (DV.agg [DV.str x.1, DV.lst 3 (List.map vD x.2) false, DV.lst 3 (List.map vD x.3) false, DV.lst 3 (List.map vD x.4) false]), Plain.mayC { t := x.1, k := List.map toVal (List.map vD x.k), o := List.map toVal (List.map vD x.o), n := List.map toVal (List.map vD x.n) }, M.all fun p => keyOk ((cfB ts7).E.und (9)) p.fst, M.all fun p => keyOk ((cfB ts7).E.und (9)) p.fst, decide ((all.length + [DV.agg [DV.str x.t, rD x.k, rD x.o, rD x.n]].length) * 88 ≤ 2 ^ 38)] [(RV.d (DV.bool (decide ((Nat.cast (R := Int) i) < (Nat.cast (R := Int) l.length)))), RV.d (DV.bool true)), (RV.iptr (l.getD (Nat.cast (R := Int) i).toNat DV.nilp) 0, RV.iptr (DV.agg [DV.str x.1, DV.lst 3 (List.map vD x.2) false, DV.lst 3 (List.map vD x.3) false, DV.lst 3 (List.map vD x.4) false]) 0), (RV.d (DV.str (nameB { t := x.1, k := List.map toVal (List.map vD x.k), o := List.map toVal (List.map vD x.o), n := List.map toVal (List.map vD x.n) })), RV.d (DV.str nm)), (RV.d (DV.bool (mhas (DV.str nm) M)), RV.d (DV.bool false)), (RV.d (DV.int Go.IntKind.i64 (Go.IntKind.i64.wrap ((Nat.cast (R := Int) i) + 1))), RV.d (DV.int Go.IntKind.i64 (Nat.cast (R := Int) (i + 1))))] rfl (by kernel_rfl : runSegA (cfB ts7) 1000 0 _ _ _ _ (mg1 M all l (i : Int)) = some (stackAt mgC 0, mg1 (mput (.str nm) (.int .i64 (all.length : Int)) M) (all ++ [chD x]) l ((i + 1 : Nat) : Int), _, _)) (by refine ⟨?_, ?_, ?_, ?_, ?_, ?_, trivial⟩ <;> (first | exact hb1 | exact isC_chD hxo | exact hmx | exact hkeys | (refine decide_eq_true ?_; simp only [List.length_singleton]; omega))) (by refine ⟨?_, ?_, ?_, ?_, ?_, trivial⟩ <;> (first | exact le_bool hb3 | exact hb2 | exact hon | exact le_bool g1 | exact ov_succ (by omega))) ?_
        exact hw
      | some j =>
        obtain ⟨g1, g2⟩ := mget_some 0 j hname hf
        obtain ⟨hjl, hjk, _⟩ := List.findIdx?_eq_some_iff_getElem.1 hf
        obtain ⟨y, hy⟩ : ∃ y, A[j] = y := ⟨_, rfl⟩
        have gy : A[j]? = some y := by rw [List.getElem?_eq_getElem hjl, hy]
        obtain ⟨hyo, hyk⟩ := hA y (List.mem_of_getElem? gy)
        have hg2 : RVle (.d (mget (.str (nameB x)) (.int .i64 0) (mapFrom 0 A))) (.d (.int .i64 (j : Int))) := .of_eq (by rw [g2, Nat.zero_add])
        have by1 := bd_in gy
        have by2 := bd_in2 gy
        have by3 := bd_ble gy
        have by4 := ov_fld gy
        have hb1 := bd_map (f := chD) hlt
        have hb2 := ov_chg hlt hx
        have hb3 : decide ((Nat.cast (R := Int) i) < (Nat.cast (R := Int) (L.map chD).length)) = true := decide_eq_true (by rw [List.length_map]; omega)
        by_cases hyx : y.n = x.o
        · have hst : mStep A x = some (A.set j ⟨y.t, y.k, y.o, x.n⟩) := by unfold mStep; rw [hf]; simp only [gy]; rw [if_pos hyx]
          simp only [mFold, hst] at hfold
          have hw := ih (i + 1, A.set j ⟨y.t, y.k, y.o, x.n⟩) ⟨hlt, by simp only [List.length_set]; omega, hfold, nokey_set (y := y) (z := ⟨y.t, y.k, y.o, x.n⟩) rfl rfl hnk gy, fun z hz => by
            rcases List.mem_or_eq_of_mem_set hz with hz | rfl
            · exact hA z hz
            · obtain ⟨q, q1, q2, q3, q4⟩ := hyk
              exact ⟨ok_set hyo hxo, q, q1, q2, q3, q4⟩⟩ (by simp only; omega)
          simp only [mapFrom_set (y := y) (z := ⟨y.t, y.k, y.o, x.n⟩) rfl rfl 0 j A gy] at hw
          rw [← set_fld gy] at hw
          have hsame : RVle (.d (.bool (!decide (unR (rD y.n) = unR (rD x.o))))) (.d (.bool false)) := le_bool (by rw [unR_rD, unR_rD, decide_eq_true hyx]; rfl)
          obtain ⟨all, hall⟩ : ∃ all, A.map chD = all := ⟨_, rfl⟩
          obtain ⟨M, hM⟩ : ∃ M, mapFrom 0 A = M := ⟨_, rfl⟩
          obtain ⟨nm, hnm⟩ : ∃ nm, nameB x = nm := ⟨_, rfl⟩
          have hon : RVle (.d (.str (nameB (toChg (chD x))))) (.d (.str nm)) := by rw [← hnm]; exact ov_nm
          obtain ⟨l, hl⟩ : ∃ l, L.map chD = l := ⟨_, rfl⟩
          rw [hall] at hw by1 by2 by3 by4 ⊢
          rw [hM] at hw g1 hg2 hkeys ⊢
          rw [hnm] at g1 hg2
          rw [hl] at hw hb1 hb2 hb3 ⊢
          clear ih hname hfold hA
          refine WK.segA ok 1000 0 [(15, RV.d (DV.bool true)), (16, RV.iptr (DV.agg [DV.str x.1, DV.lst 3 (List.map vD x.2) false, DV.lst 3 (List.map vD x.3) false, DV.lst 3 (List.map vD x.4) false]) 0), (19, RV.d (DV.str nm)), (25, RV.d (DV.bool true)), (24, RV.d (DV.int Go.IntKind.i64 (Nat.cast (R := Int) j))), (40, RV.d (DV.lst 3 (List.map vD y.4) false)), (44, RV.d (DV.bool false)), (51, RV.d (DV.int Go.IntKind.i64 (Nat.cast (R := Int) (i + 1))))] [] [4, 5, 12, 13, 14] [decide (0 ≤ (Nat.cast (R := Int) i) ∧ (Nat.cast (R := Int) i) < (Nat.cast (R := Int) l.length)), isC (DV.agg [DV.str x.1, DV.lst 3 (List.map vD x.2) false, DV.lst 3 (List.map vD x.3) false, DV.lst 3 (List.map vD x.4) false]), Plain.mayC { t := x.1, k := List.map toVal (List.map vD x.k), o := List.map toVal (List.map vD x.o), n := List.map toVal (List.map vD x.n) }, M.all fun p => keyOk ((cfB ts7).E.und (9)) p.fst, decide (0 ≤ (Nat.cast (R := Int) j) ∧ (Nat.cast (R := Int) j) < (Nat.cast (R := Int) all.length)), decide ((Nat.cast (R := Int) j).toNat < all.length), Nat.ble 4 (all.getD (Nat.cast (R := Int) j).toNat DV.nilp).cells.length, decide ((List.map vD y.n).length ≤ 65536) && (List.map vD y.4).all isVal && true && true, decide ((List.map vD x.o).length ≤ 65536) && (List.map vD x.3).all isVal && true && true, decide (0 ≤ (Nat.cast (R := Int) j) ∧ (Nat.cast (R := Int) j) < (Nat.cast (R := Int) all.length)), decide ((Nat.cast (R := Int) j).toNat < all.length), Nat.ble 4 (all.getD (Nat.cast (R := Int) j).toNat DV.nilp).cells.length] [(RV.d (DV.bool (decide ((Nat.cast (R := Int) i) < (Nat.cast (R := Int) l.length)))), RV.d (DV.bool true)), (RV.iptr (l.getD (Nat.cast (R := Int) i).toNat DV.nilp) 0, RV.iptr (DV.agg [DV.str x.1, DV.lst 3 (List.map vD x.2) false, DV.lst 3 (List.map vD x.3) false, DV.lst 3 (List.map vD x.4) false]) 0), (RV.d (DV.str (nameB { t := x.1, k := List.map toVal (List.map vD x.k), o := List.map toVal (List.map vD x.o), n := List.map toVal (List.map vD x.n) })), RV.d (DV.str nm)), (RV.d (mget (DV.str nm) (DV.int Go.IntKind.i64 (0)) M), RV.d (DV.int Go.IntKind.i64 (Nat.cast (R := Int) j))), (RV.d (DV.bool (mhas (DV.str nm) M)), RV.d (DV.bool true)), (RV.d ((all.getD (Nat.cast (R := Int) j).toNat DV.nilp).cells.getD 3 DV.nilp), RV.d (DV.lst 3 (List.map vD y.4) false)), (RV.d (DV.bool !decide (unR (rD y.n) = unR (rD x.o))), RV.d (DV.bool false)), (RV.d (DV.int Go.IntKind.i64 (Go.IntKind.i64.wrap ((Nat.cast (R := Int) i) + 1))), RV.d (DV.int Go.IntKind.i64 (Nat.cast (R := Int) (i + 1))))] rfl (by kernel_rfl : runSegA (cfB ts7) 1000 0 _ _ _ _ (mg1 M all l (i : Int)) = some (stackAt mgC 0, mg1 M (all.set j (.agg (splice ((all.getD j .nilp).cells) 3 [rD x.n]))) l ((i + 1 : Nat) : Int), _, _)) (by refine ⟨?_, ?_, ?_, ?_, ?_, ?_, ?_, ?_, ?_, ?_, ?_, ?_, trivial⟩ <;> (first | exact hb1 | exact isC_chD hxo | exact hmx | exact hkeys | exact by1 | exact by2 | exact by3 | exact ok_n hyo | exact ok_o hxo)) (by refine ⟨?_, ?_, ?_, ?_, ?_, ?_, ?_, ?_, trivial⟩ <;> (first | exact le_bool hb3 | exact hb2 | exact hon | exact hg2 | exact le_bool g1 | exact by4 | exact hsame | exact ov_succ (by omega))) ?_
          exact hw
        · have hst : mStep A x = none := by unfold mStep; rw [hf]; simp only [gy]; rw [if_neg hyx]
          simp only [mFold, hst] at hfold
          have hR : mrgC L = ([], 220) := by unfold mrgC; rw [← hfold]
          show WK Try.prog 0 _ _ (Ends (Try.f52.results.toList) (.tup [.d (chL (mrgC L).1), .d (.int .i64 (mrgC L).2)]))
          rw [hR]
          have hsame : RVle (.d (.bool (!decide (unR (rD y.n) = unR (rD x.o))))) (.d (.bool true)) := le_bool (by rw [unR_rD, unR_rD, decide_eq_false hyx]; rfl)
          obtain ⟨all, hall⟩ : ∃ all, A.map chD = all := ⟨_, rfl⟩
          obtain ⟨M, hM⟩ : ∃ M, mapFrom 0 A = M := ⟨_, rfl⟩
          obtain ⟨nm, hnm⟩ : ∃ nm, nameB x = nm := ⟨_, rfl⟩
          have hon : RVle (.d (.str (nameB (toChg (chD x))))) (.d (.str nm)) := by rw [← hnm]; exact ov_nm
          obtain ⟨l, hl⟩ : ∃ l, L.map chD = l := ⟨_, rfl⟩
          rw [hall] at by1 by2 by3 by4 ⊢
          rw [hM] at g1 hg2 hkeys ⊢
          rw [hnm] at g1 hg2
          rw [hl] at hb1 hb2 hb3 ⊢
          clear ih hname hfold hA
          exact WK.fin ok 1000 0 [(15, RV.d (DV.bool true)), (16, RV.iptr (DV.agg [DV.str x.1, DV.lst 3 (List.map vD x.2) false, DV.lst 3 (List.map vD x.3) false, DV.lst 3 (List.map vD x.4) false]) 0), (19, RV.d (DV.str nm)), (25, RV.d (DV.bool true)), (24, RV.d (DV.int Go.IntKind.i64 (Nat.cast (R := Int) j))), (40, RV.d (DV.lst 3 (List.map vD y.4) false)), (44, RV.d (DV.bool true)), (2, RV.d (DV.lst 4 [] false))] [decide (0 ≤ (Nat.cast (R := Int) i) ∧ (Nat.cast (R := Int) i) < (Nat.cast (R := Int) l.length)), isC (DV.agg [DV.str x.1, DV.lst 3 (List.map vD x.2) false, DV.lst 3 (List.map vD x.3) false, DV.lst 3 (List.map vD x.4) false]), Plain.mayC { t := x.1, k := List.map toVal (List.map vD x.k), o := List.map toVal (List.map vD x.o), n := List.map toVal (List.map vD x.n) }, M.all fun p => keyOk ((cfB ts7).E.und (9)) p.fst, decide (0 ≤ (Nat.cast (R := Int) j) ∧ (Nat.cast (R := Int) j) < (Nat.cast (R := Int) all.length)), decide ((Nat.cast (R := Int) j).toNat < all.length), Nat.ble 4 (all.getD (Nat.cast (R := Int) j).toNat DV.nilp).cells.length, decide ((List.map vD y.n).length ≤ 65536) && (List.map vD y.4).all isVal && true && true, decide ((List.map vD x.o).length ≤ 65536) && (List.map vD x.3).all isVal && true && true] [(RV.d (DV.bool (decide ((Nat.cast (R := Int) i) < (Nat.cast (R := Int) l.length)))), RV.d (DV.bool true)), (RV.iptr (l.getD (Nat.cast (R := Int) i).toNat DV.nilp) 0, RV.iptr (DV.agg [DV.str x.1, DV.lst 3 (List.map vD x.2) false, DV.lst 3 (List.map vD x.3) false, DV.lst 3 (List.map vD x.4) false]) 0), (RV.d (DV.str (nameB { t := x.1, k := List.map toVal (List.map vD x.k), o := List.map toVal (List.map vD x.o), n := List.map toVal (List.map vD x.n) })), RV.d (DV.str nm)), (RV.d (mget (DV.str nm) (DV.int Go.IntKind.i64 (0)) M), RV.d (DV.int Go.IntKind.i64 (Nat.cast (R := Int) j))), (RV.d (DV.bool (mhas (DV.str nm) M)), RV.d (DV.bool true)), (RV.d ((all.getD (Nat.cast (R := Int) j).toNat DV.nilp).cells.getD 3 DV.nilp), RV.d (DV.lst 3 (List.map vD y.4) false)), (RV.d (DV.bool !decide (unR (rD y.n) = unR (rD x.o))), RV.d (DV.bool true)), (RV.d (DV.lst 0 [] true), RV.d (DV.lst 4 [] false))] rfl (by kernel_rfl : runEnd (cfB ts7) true _ 1000 0 _ _ (mg1 M all l (i : Int)) = some (RV.tup [RV.d (DV.lst 4 [] false), RV.d (DV.int Go.IntKind.i64 (220))], [], _, _)) (by refine ⟨?_, ?_, ?_, ?_, ?_, ?_, ?_, ?_, ?_, trivial⟩ <;> (first | exact hb1 | exact isC_chD hxo | exact hmx | exact hkeys | exact by1 | exact by2 | exact by3 | exact ok_n hyo | exact ok_o hxo)) (by refine ⟨?_, ?_, ?_, ?_, ?_, ?_, ?_, ?_, trivial⟩ <;> (first | exact le_bool hb3 | exact hb2 | exact hon | exact hg2 | exact le_bool g1 | exact by4 | exact hsame | exact nil_leM)) ⟨rfl, rfl⟩
    · have e : i = L.length := by omega
      rw [e, List.drop_eq_nil_of_le (Nat.le_refl _)] at hfold
      simp only [mFold] at hfold
      have hR : mrgC L = (Srt.isort cmpC (live A), 0) := by unfold mrgC; rw [← hfold]
      show WK Try.prog 0 _ _ (Ends (Try.f52.results.toList) (.tup [.d (chL (mrgC L).1), .d (.int .i64 (mrgC L).2)]))
      rw [hR]
      have hlv : ∀ y ∈ live A, y ∈ A := fun y hy => (List.mem_filter.1 hy).1
      have h1 : (A.map chD).all isC = true := all_isC (fun y hy => (hA y hy).1)
      have h2 : decide ((A.map chD).length ≤ 65536) = true := decide_eq_true (by rw [List.length_map]; omega)
      have h3 : ((live ((A.map chD).map toChg)).map chD).all isC = true := by rw [unL_map]; exact all_isC (fun y hy => (hA y (hlv y hy)).1)
      have h4 : decide (((live ((A.map chD).map toChg)).map chD).length ≤ 65536) = true := decide_eq_true (by
        rw [unL_map, List.length_map]
        have : (live A).length ≤ A.length := List.length_filter_le _ _
        omega)
      have h5 : distB (((live ((A.map chD).map toChg)).map chD).map toChg) = true := by
        rw [unL_map, unL_map]
        exact distB_nokey (fun y hy => keyed_row (hA y (hlv y hy)).2) (nokey_filter _ hnk)
      have h6 : (Srt.isort cmpC (((live ((A.map chD).map toChg)).map chD).map toChg)).map chD = (Srt.isort cmpC (live A)).map chD := by rw [unL_map, unL_map]
      have hf : decide ((Nat.cast (R := Int) i) < (Nat.cast (R := Int) (L.map chD).length)) = false := decide_eq_false (by rw [List.length_map]; omega)
      obtain ⟨all, hall⟩ : ∃ all, A.map chD = all := ⟨_, rfl⟩
      obtain ⟨M, hM⟩ : ∃ M, mapFrom 0 A = M := ⟨_, rfl⟩
      obtain ⟨l, hl⟩ : ∃ l, L.map chD = l := ⟨_, rfl⟩
      rw [hall] at h1 h2 h3 h4 h5 h6 ⊢
      rw [hM, hl]
      rw [hl] at hf
      clear ih hA hfold
      exact WK.fin ok 1000 0 [(15, RV.d (DV.bool false))] [true, true, all.all isC, decide (all.length ≤ 65536), true, true, (List.map chD (Plain.live (List.map toChg all))).all isC, decide ((List.map chD (Plain.live (List.map toChg all))).length ≤ 65536), Plain.distB (List.map toChg (List.map chD (Plain.live (List.map toChg all))))] [(RV.d (DV.bool (decide ((Nat.cast (R := Int) i) < (Nat.cast (R := Int) l.length)))), RV.d (DV.bool false))] rfl (by kernel_rfl : runEnd (cfB ts7) true _ 1000 0 _ _ (mg1 M all l (i : Int)) = some (RV.tup [RV.d (DV.lst 4 (List.map chD (List.foldl (Srt.insE Plain.cmpC) [] (List.map toChg (List.map chD (Plain.live (List.map toChg all)))))) false), RV.d (DV.int Go.IntKind.i64 (0))], [], _, _)) (by refine ⟨?_, ?_, ?_, ?_, ?_, ?_, ?_, ?_, ?_, trivial⟩ <;> (first | rfl | exact h1 | exact h2 | exact h3 | exact h4 | exact h5)) ⟨(by exact le_bool hf), trivial⟩ ⟨by show RV.tup [.d (.lst 4 _ false), _] = RV.tup [.d (.lst 4 _ false), _]; rw [← h6]; rfl, rfl⟩
  obtain ⟨l, hl⟩ : ∃ l, L.map chD = l := ⟨_, rfl⟩
  show WK Try.prog 0 _ (ini 57 [.d (.lst 4 (L.map chD) false)] []).den _
  rw [hl] at hloop ⊢
  refine WK.segA ok 1000 0 [] [(5, 250, chT, 4)] [4, 5, 12, 13, 14] [] [] rfl (by kernel_rfl : runSegA (cfB ts7) 1000 0 _ _ _ _ (ini 57 [.d (.lst 4 l false)] []) = some (stackAt mgC 0, mg1 [] [] l 0, _, _)) trivial trivial ?_
  exact hloop
end Go.Proofs.Ytljfolepmkcjlaa

/-
  slices.Clone, change.Merge, Concat, Invert, run.
-/
namespace Go.Proofs.Ytljfolepmkcjlaa
open Go.RowKit Plain Am IntWalk
set_option maxRecDepth 100000
set_option linter.unusedVariables false
set_option linter.unusedSimpArgs false

noncomputable abbrev clC : Code := bodyOf Try.f41
noncomputable abbrev mergC0 : Code := bodyOf Try.f26
noncomputable abbrev coC : Code := bodyOf Try.f19
noncomputable abbrev inC2 : Code := bodyOf Try.f28
def mrgE : Ent := fun a o => match a, o with
  | [.d x], [] => some (.tup [.d (chL (mrgC (unL x)).1), .d (.int .i64 (mrgC (unL x)).2)], [], [isL x, (unL x).all mayC, decide ((unL x).length ≤ 10000)])
  | _, _ => none
def mergE : Ent := fun a o => match a, o with
  | [.d x], [] => some (.tup [.d (chL (mergeC (unL x)).1), .d (.int .i64 (mergeC (unL x)).2)], [], [isL x, (unL x).all mayC, decide ((unL x).length ≤ 10000)])
  | _, _ => none
def cloneE : Ent := fun a o => match a, o with
  | [.d (.lst 4 els false)], [] => some (.own 0 4, [.arr chT 4 els], [isL (.lst 4 els false)])
  | _, _ => none
noncomputable def ts8 : List (Nat × Ent) := [(52, mrgE), (17, e1 ckG)]
noncomputable def ts9 : List (Nat × Ent) := [(26, mergE), (17, e1 ckG), (41, cloneE)]
def iv1 (out l : List DV) (i : Int) : ESt := { n := 36, m := 0, regs := T.mk [(5, .own 200 4), (15, .d (.lst 4 l false)), (16, .d (.int .i64 (l.length : Int))), (17, .d (.int .i64 i))], objs := T.mk [(200, .arr chT 4 out)] }
def cc1 (a b : List DV) (i : Int) : ESt := { n := 28, m := 0, regs := T.mk [(0, .d (.lst 4 a false)), (1, .d (.lst 4 b false)), (11, .d (.agg [.lst 4 a false, .lst 4 b false])), (12, .d (.int .i64 i))], objs := T.nil }
theorem info_chg : (Try.prog.info? 46).map (fun i => (i.zero, i.size, i.bytes)) = some (some (.agg #[.string ⟨#[]⟩, .slice none 0 0, .slice none 0 0, .slice none 0 0]), 4, 88) := by kernel_rfl
theorem clone_nil (n c : Nat) (w : World) : Calls Try.prog 41 #[.slice none n c] w fun e w' => e = .returned (.slice none 0 0) ∧ w' = w := by
  have q22 : ∀ (w : World) (a : Option Addr) (n c n' c' : Nat), (binOp .eql 22 (.slice a n c) (.slice none n' c')).run Try.prog w = .ok (.bool a.isNone) w := fun w a n c n' c' => Go.Lib.run_eql_slice_nil w _ _ a n c n' c' Try.underlying22
  go_enter Try.func41, Try.ntmps41
  go_wp2
  go_ret
  exact ⟨rfl, rfl⟩
set_option maxHeartbeats 2000000 in
theorem clone_zero (a : Addr) (c : Nat) (w : World) : Calls Try.prog 41 #[.slice (some a) 0 c] w fun e w' => ∃ v', e = .returned v' ∧ w'.ownsRow w.heap.size 46 4 v' 0 [] ∧ v' ≠ .slice none 0 0 ∧ Below w.heap.size w w' := by
  have q22 : ∀ (w : World) (a : Option Addr) (n c n' c' : Nat), (binOp .eql 22 (.slice a n c) (.slice none n' c')).run Try.prog w = .ok (.bool a.isNone) w := fun w a n c n' c' => Go.Lib.run_eql_slice_nil w _ _ a n c n' c' Try.underlying22
  have u22 : ∀ w, Sem.run Try.prog (underlying 22) w = .ok (TypeDesc.slice 46) w := run_underlying Try.underlying22
  obtain ⟨i0, hi, hz0, hz1, hz2⟩ := info_parts info_chg
  go_enter Try.func41, Try.ntmps41
  go_wp2_with (at_builtin; refine wpList_append_own _ rfl _ _ 22 rfl w.heap.size 46 i0 (.agg #[.string ⟨#[]⟩, .slice none 0 0, .slice none 0 0, .slice none 0 0]) 4 88 Try.underlying22 hi hz0 hz1 hz2 rfl (by decide) _ _ _ rfl (World.ownsRow_made w #[] 0 (Nat.le_refl _) (Nat.zero_le _) rfl) a 0 c [] rfl rfl (by intro j u hj; simp at hj) (by intro u hu; cases hu) (by unfold maxLen; omega) (by omega) (by simp) ?_)
  intro v' w1 hown hgrow hnil
  go_wp2
  go_ret
  refine ⟨v', rfl, by simpa using hown, ?_, ?_⟩
  · first | exact hnil | (intro e; exact absurd (hnil.1 e).1 (by simp))
  · exact ((Below.refl _ w).alloc (Nat.le_refl _) _).grown hgrow (by simp) (by intro k hk; simp [Value.ownBlock] at hk; omega)
theorem clone_e : C Try.prog 41 [.d (.lst 4 [] false)] [] (fun r o => r = .own 0 4 ∧ o = [.arr chT 4 []]) := by
  intro κ φ w vs h1 h2 h3 h4
  have hs : vs.size = 1 := by simpa using h3
  have e1 : vs[0]? = some vs[0] := by simp [show 0 < vs.size by omega]
  have r0 := h4 0 _ _ rfl e1
  have hvs : vs = #[vs[0]] := by
    apply Array.ext
    · simpa using hs
    · intro i hi hi2; simp at hi2; subst hi2; rfl
  rw [hvs]
  generalize vs[0] = v0 at r0
  clear e1 hvs
  have hun : ∀ i, φ i = .un := fun i => h1 i
  have fz : ∀ {φ' : Phi}, Kp φ (tabOf []) φ' (tabOf [.arr chT 4 []]) := ⟨fun i hi => absurd (hun i) hi, fun i n hi _ => absurd (hun i) hi⟩
  have hbase : ∃ base c, v0 = .slice base 0 c := by
    cases r0 with
    | d hr =>
    cases hr with
    | lst0 hf => exact ⟨_, _, rfl⟩
    | lst hκ hb hf hc hs hz hr => exact ⟨_, _, rfl⟩
  obtain ⟨base, c, rfl⟩ := hbase
  cases base with
  | none =>
    refine (clone_nil 0 c w).mono ?_
    rintro e w' ⟨rfl, rfl⟩
    refine ⟨_, .own 0 4, [.arr chT 4 []], κ, setP φ 0 .nil, rfl, ⟨rfl, rfl⟩, .ownNil (setP_same _ _ _), fun i => ?_, h2, by simp, Fr.refl _ _, fz⟩
    match i with
    | 0 => exact .inl ⟨setP_same _ _ _, rfl⟩
    | i + 1 => show setP φ 0 .nil (i + 1) = .un; rw [setP_ne _ _ (by omega)]; exact hun _
  | some a =>
    refine (clone_zero a c w).mono ?_
    rintro e w' ⟨v, rfl, ⟨_, ho⟩, hne, hB⟩
    rcases ho with ⟨rfl, _⟩ | ⟨g, cap, cur, rfl, hg, hc, h5, _, h6, h7⟩
    · exact absurd rfl hne
    have hlt : g < w'.heap.size := (Array.getElem?_eq_some_iff.1 hc).1
    have him : ∀ x, κ x ≠ .oth → x ≠ g := fun x hx e => by subst e; have := h2 x hx; omega
    have hk : ∀ x, x ≠ g → setK κ g (.own 0) x = κ x := fun x hx => by unfold setK; rw [if_neg hx]
    refine ⟨_, .own 0 4, [.arr chT 4 []], setK κ g (.own 0), setP φ 0 (.at g), rfl, ⟨rfl, rfl⟩, .own (setP_same _ _ _) hc (by omega) h5 (fun n hn => by simpa [tabOf, PObj.len?] using hn), fun i => ?_, fun x hx => ?_, by simp, ?_, fz⟩
    · match i with
      | 0 => exact .inr ⟨g, cur, (0, 0), setP_same _ _ _, by unfold setK; rw [if_pos rfl], hc, fzOk00 _, ⟨by intro x hx; simp at hx, by simp, by intro i x j y v hx; simp at hx⟩⟩
      | i + 1 => show setP φ 0 (.at g) (i + 1) = .un; rw [setP_ne _ _ (by omega)]; exact hun _
    · by_cases e : x = g
      · subst e; exact hlt
      · rw [hk x e] at hx; exact Nat.lt_of_lt_of_le (h2 x hx) hB.size
    · refine ⟨hB.size, fun x hx => ?_, fun x hxl hx => ?_, fun x c ty fz hx => ?_, hB.os, hB.output⟩
      · have e := him x (by rw [hx]; simp)
        exact ⟨by rw [hk x e]; exact hx, hB.block x (h2 x (by rw [hx]; simp))⟩
      · exact ⟨by rw [hk x (by omega)]; exact hx, hB.block x hxl⟩
      · have hxl : x < w.heap.size := (Array.getElem?_eq_some_iff.1 hx).1
        exact ⟨c, fz, by rw [hB.block x hxl]; exact hx, rfl⟩
theorem clone_c (L : List Chg) (hok : okL L) : C Try.prog 41 [.d (.lst 4 (L.map chD) false)] [] (fun r o => r = .own 0 4 ∧ o = [.arr chT 4 (L.map chD)]) := by
  cases L with
  | nil => exact clone_e
  | cons x r =>
    have ok := cfB_ok (l := []) .nil
    have hl := hok.1
    refine C_of_run (fn := Try.f41) (body := clC) false (by kernel_rfl) (by kernel_rfl) (by kernel_rfl) ?_
    obtain ⟨l, hll⟩ : ∃ l, r.map chD = l := ⟨_, rfl⟩
    obtain ⟨z, hz⟩ : ∃ z, chD x = z := ⟨_, rfl⟩
    have h1 : l.length ≤ 65536 := by rw [← hll, List.length_map]; simp at hl; omega
    rw [List.map_cons, hll, hz]
    have hrun : runEnd (cfB []) false (Try.f41.results.toList) 1000 0 [] [.code clC] (ini 8 [.d (.lst 4 (z :: l) false)] []) = some (.own 0 4, [.arr chT 4 ([] ++ z :: l)], [decide ((([] : List DV).length + (z :: l).length) * 88 ≤ 2 ^ 38)], []) := by kernel_rfl
    exact WK.fin ok 1000 0 _ _ _ rfl hrun ⟨decide_eq_true (by simp only [List.length_nil, List.length_cons]; omega), trivial⟩ trivial ⟨rfl, rfl⟩
theorem clone_ent : EntOk Try.prog 41 cloneE := by
  intro a o r o' c hg hc
  unfold cloneE at hg
  split at hg
  · rename_i els
    simp only [Option.some.injEq, Prod.mk.injEq] at hg
    obtain ⟨rfl, rfl, rfl⟩ := hg
    obtain ⟨L, hL, hok⟩ := isL_spec (hc (isL (.lst 4 els false)) (by simp))
    have : els = L.map chD := by simpa [chL] using hL
    subst this
    exact clone_c L hok
  · cases hg
/-! ### Merge -/
theorem mFold_ok : ∀ {l A B : List Chg}, (∀ c ∈ A, Chg.ok c) → (∀ c ∈ l, Chg.ok c) → mFold A l = some B → (∀ c ∈ B, Chg.ok c) ∧ B.length ≤ A.length + l.length
  | [], A, B, hA, _, h => by simp only [mFold, Option.some.injEq] at h; subst h; exact ⟨hA, by simp⟩
  | x :: r, A, B, hA, hl, h => by
    simp only [mFold] at h
    cases hs : mStep A x with
    | none => rw [hs] at h; cases h
    | some A' =>
      rw [hs] at h
      have key : (∀ c ∈ A', Chg.ok c) ∧ A'.length ≤ A.length + 1 := by
        unfold mStep at hs
        split at hs
        · injection hs with hs; subst hs
          refine ⟨fun c hc => ?_, by simp⟩
          rcases List.mem_append.1 hc with hc | hc
          · exact hA c hc
          · rw [List.mem_singleton.1 hc]; exact hl x (by simp)
        · split at hs
          · cases hs
          · rename_i y gy
            split at hs
            · injection hs with hs; subst hs
              refine ⟨fun c hc => ?_, by simp⟩
              rcases List.mem_or_eq_of_mem_set hc with hc | rfl
              · exact hA c hc
              · exact ok_set (hA y (List.mem_of_getElem? gy)) (hl x (by simp))
            · cases hs
      obtain ⟨i1, i2⟩ := mFold_ok key.1 (fun c hc => hl c (by simp [hc])) h
      refine ⟨i1, ?_⟩
      have := key.2
      simp only [List.length_cons]; omega
theorem mrgC_ok {L : List Chg} (h : okL L) : okL (mrgC L).1 := by
  unfold mrgC
  cases hf : mFold [] L with
  | none => exact ⟨by simp, by simp⟩
  | some A =>
    obtain ⟨h1, h2⟩ := mFold_ok (by simp) h.2 hf
    have hp := (Srt.isort_ok preC (live A)).2
    have h3 : (live A).length ≤ A.length := List.length_filter_le _ _
    refine ⟨?_, fun c hc => h1 c ((List.mem_filter.1 (hp.mem_iff.1 hc)).1)⟩
    show (Srt.isort cmpC (live A)).length ≤ 65536
    rw [hp.length_eq]
    have := h.1
    simp only [List.length_nil] at h2; omega
theorem mergeC_of (L : List Chg) : mergeC L = if (mrgC L).2 = 0 then (if mayL (mrgC L).1 then ((mrgC L).1, 0) else ([], 2)) else ([], (mrgC L).2) := by
  unfold mergeC mrgC
  cases mFold [] L with
  | none => rfl
  | some A => rfl
theorem mrg_ent : EntOk Try.prog 52 mrgE := by
  intro a o r o' c hg hc
  unfold mrgE at hg
  split at hg
  · rename_i x
    simp only [Option.some.injEq, Prod.mk.injEq] at hg
    obtain ⟨rfl, rfl, rfl⟩ := hg
    obtain ⟨L, rfl, hok⟩ := isL_spec (hc (isL x) (by simp))
    have h2 := hc ((unL (chL L)).all mayC) (by simp)
    have h3 := of_decide_eq_true (hc (decide ((unL (chL L)).length ≤ 10000)) (by simp))
    rw [unL_chL] at h2 h3 ⊢
    exact merge_c L hok (by simpa [List.all_eq_true] using h2) h3
  · cases hg
theorem ts8_ok : EntsOk Try.prog ts8 := .cons mrg_ent (.cons ck_ent .nil)
theorem Merge_c (L : List Chg) (hok : okL L) (hm : ∀ x ∈ L, mayC x = true) (hl6 : L.length ≤ 10000) : C Try.prog 26 [.d (chL L)] [] (fun r o => r = .tup [.d (chL (mergeC L).1), .d (.int .i64 (mergeC L).2)] ∧ o = []) := by
  have ok := cfT_ok ts8_ok
  refine C_of_run (fn := Try.f26) (body := mergC0) true (by kernel_rfl) (by kernel_rfl) (by kernel_rfl) ?_
  have k1 := isL_chL hok
  have k2 : (unL (chL L)).all mayC = true := by rw [unL_chL]; simpa [List.all_eq_true] using hm
  have k3 : decide ((unL (chL L)).length ≤ 10000) = true := decide_eq_true (by rw [unL_chL]; exact hl6)
  have k4 : isL (chL (mrgC (unL (chL L))).1) = true := by rw [unL_chL]; exact isL_chL (mrgC_ok hok)
  have hf := mergeC_of L
  have e1 : (mrgC (unL (chL L))).1 = (mrgC L).1 := by rw [unL_chL]
  have e2 : (mrgC (unL (chL L))).2 = (mrgC L).2 := by rw [unL_chL]
  by_cases h0 : (mrgC L).2 = 0
  · by_cases h1 : mayL (mrgC L).1 = true
    · rw [if_pos h0, if_pos h1] at hf
      have q1 : RVle (.d (.bool ((mrgC (unL (chL L))).2 == 0))) (.d (.bool true)) := le_bool (by rw [e2, h0]; rfl)
      have q2 : RVle (.d (.bool ((if mayL (unL (chL (mrgC (unL (chL L))).1)) = true then (0 : Int) else 2) != 0))) (.d (.bool false)) := le_bool (by rw [unL_chL, e1, h1]; rfl)
      exact WK.fin ok 1000 0 [(12, RV.d (DV.bool true)), (16, RV.d (DV.bool false))] [isL (DV.lst 4 (L.map chD) false), (unL (DV.lst (4) (L.map chD) false)).all Plain.mayC, decide ((unL (DV.lst (4) (L.map chD) false)).length ≤ 10000), isL (DV.lst 4 (List.map chD (Plain.mrgC (unL (DV.lst (4) (L.map chD) false))).1) false)] [(RV.d (DV.bool ((Plain.mrgC (unL (DV.lst (4) (L.map chD) false))).2 == 0)), RV.d (DV.bool true)), (RV.d (DV.bool ((if Plain.mayL (unL (chL (Plain.mrgC (unL (DV.lst (4) (L.map chD) false))).fst)) = true then (0 : Int) else 2) != 0)), RV.d (DV.bool false))] rfl (by kernel_rfl : runEnd (cfT ts8) true _ 1000 0 _ _ (ini 19 [.d (.lst 4 (L.map chD) false)] []) = some (RV.tup [RV.d (DV.lst 4 (List.map chD (Plain.mrgC (unL (DV.lst (4) (L.map chD) false))).1) false), RV.d (DV.int Go.IntKind.i64 (0))], [], _, _)) (by refine ⟨?_, ?_, ?_, ?_, trivial⟩ <;> (first | exact k1 | exact k2 | exact k3 | exact k4)) (by refine ⟨?_, ?_, trivial⟩ <;> (first | exact q1 | exact q2)) ⟨by rw [hf, ← e1]; rfl, rfl⟩
    · have h1' : mayL (mrgC L).1 = false := by simpa using h1
      rw [if_pos h0, if_neg h1] at hf
      have q1 : RVle (.d (.bool ((mrgC (unL (chL L))).2 == 0))) (.d (.bool true)) := le_bool (by rw [e2, h0]; rfl)
      have q2 : RVle (.d (.bool ((if mayL (unL (chL (mrgC (unL (chL L))).1)) = true then (0 : Int) else 2) != 0))) (.d (.bool true)) := le_bool (by rw [unL_chL, e1, h1']; rfl)
      have q3 : (if mayL (unL (chL (mrgC (unL (chL L))).1)) = true then (0 : Int) else 2) = 2 := by rw [unL_chL, e1, h1']; rfl
      exact WK.fin ok 1000 0 [(12, RV.d (DV.bool true)), (16, RV.d (DV.bool true)), (2, RV.d (DV.lst 4 [] false))] [isL (DV.lst 4 (L.map chD) false), (unL (DV.lst (4) (L.map chD) false)).all Plain.mayC, decide ((unL (DV.lst (4) (L.map chD) false)).length ≤ 10000), isL (DV.lst 4 (List.map chD (Plain.mrgC (unL (DV.lst (4) (L.map chD) false))).1) false)] [(RV.d (DV.lst 0 [] true), RV.d (DV.lst 4 [] false)), (RV.d (DV.bool ((Plain.mrgC (unL (DV.lst (4) (L.map chD) false))).2 == 0)), RV.d (DV.bool true)), (RV.d (DV.bool ((if Plain.mayL (unL (chL (Plain.mrgC (unL (DV.lst (4) (L.map chD) false))).fst)) = true then (0 : Int) else 2) != 0)), RV.d (DV.bool true)), (RV.d (DV.lst 0 [] true), RV.d (DV.lst 4 [] false))] rfl (by kernel_rfl : runEnd (cfT ts8) true _ 1000 0 _ _ (ini 19 [.d (.lst 4 (L.map chD) false)] []) = some (RV.tup [RV.d (DV.lst 4 [] false), RV.d (DV.int Go.IntKind.i64 (if Plain.mayL (unL (chL (Plain.mrgC (unL (DV.lst (4) (L.map chD) false))).fst)) = true then (0 : Int) else 2))], [], _, _)) (by refine ⟨?_, ?_, ?_, ?_, trivial⟩ <;> (first | exact k1 | exact k2 | exact k3 | exact k4)) (by refine ⟨?_, ?_, ?_, ?_, trivial⟩ <;> (first | exact q1 | exact q2 | exact nil_leM)) ⟨by rw [hf]; show RV.tup [_, .d (.int .i64 (if mayL (unL (chL (mrgC (unL (chL L))).1)) = true then (0 : Int) else 2))] = _; rw [q3]; rfl, rfl⟩
  · rw [if_neg h0] at hf
    have q1 : RVle (.d (.bool ((mrgC (unL (chL L))).2 == 0))) (.d (.bool false)) := le_bool (by rw [e2]; simpa using h0)
    have q2 : RVle (.d (.bool ((mrgC (unL (chL L))).2 != 0))) (.d (.bool true)) := le_bool (by rw [e2]; simpa using h0)
    exact WK.fin ok 1000 0 [(12, RV.d (DV.bool false)), (16, RV.d (DV.bool true)), (2, RV.d (DV.lst 4 [] false))] [isL (DV.lst 4 (L.map chD) false), (unL (DV.lst (4) (L.map chD) false)).all Plain.mayC, decide ((unL (DV.lst (4) (L.map chD) false)).length ≤ 10000)] [(RV.d (DV.lst 0 [] true), RV.d (DV.lst 4 [] false)), (RV.d (DV.bool ((Plain.mrgC (unL (DV.lst (4) (L.map chD) false))).2 == 0)), RV.d (DV.bool false)), (RV.d (DV.bool ((Plain.mrgC (unL (DV.lst (4) (L.map chD) false))).2 != 0)), RV.d (DV.bool true)), (RV.d (DV.lst 0 [] true), RV.d (DV.lst 4 [] false))] rfl (by kernel_rfl : runEnd (cfT ts8) true _ 1000 0 _ _ (ini 19 [.d (.lst 4 (L.map chD) false)] []) = some (RV.tup [RV.d (DV.lst 4 [] false), RV.d (DV.int Go.IntKind.i64 (Plain.mrgC (unL (DV.lst (4) (L.map chD) false))).2)], [], _, _)) (by refine ⟨?_, ?_, ?_, trivial⟩ <;> (first | exact k1 | exact k2 | exact k3 | exact k4)) (by refine ⟨?_, ?_, ?_, ?_, trivial⟩ <;> (first | exact q1 | exact q2 | exact nil_leM)) ⟨by rw [hf, ← e2]; rfl, rfl⟩
theorem merg_ent : EntOk Try.prog 26 mergE := by
  intro a o r o' c hg hc
  unfold mergE at hg
  split at hg
  · rename_i x
    simp only [Option.some.injEq, Prod.mk.injEq] at hg
    obtain ⟨rfl, rfl, rfl⟩ := hg
    obtain ⟨L, rfl, hok⟩ := isL_spec (hc (isL x) (by simp))
    have h2 := hc ((unL (chL L)).all mayC) (by simp)
    have h3 := of_decide_eq_true (hc (decide ((unL (chL L)).length ≤ 10000)) (by simp))
    rw [unL_chL] at h2 h3 ⊢
    exact Merge_c L hok (by simpa [List.all_eq_true] using h2) h3
  · cases hg
theorem ts9_ok : EntsOk Try.prog ts9 := .cons merg_ent (.cons ck_ent (.cons clone_ent .nil))
/-! ### Concat -/
theorem mayL_all {L : List Chg} (h : mayL L = true) : (∀ x ∈ L, mayC x = true) ∧ L.length ≤ 1000 := by
  simp only [mayL, Bool.and_eq_true, decide_eq_true_eq] at h
  refine ⟨?_, h.1⟩
  have key : ∀ (l : List Chg) (p : Option Chg), mayI p l = true → ∀ x ∈ l, mayC x = true := by
    intro l
    induction l with
    | nil => intro p _ x hx; simp at hx
    | cons y r ih =>
      intro p hp x hx
      simp only [mayI, Bool.and_eq_true] at hp
      rcases List.mem_cons.1 hx with rfl | hx
      · exact hp.1.1
      · exact ih _ hp.2 x hx
  exact key L none h.2
theorem Concat_c (a b : List Chg) (ha : okL a) (hb : okL b) : C Try.prog 19 [.d (chL a), .d (chL b)] [] (fun r o => r = .tup [.d (chL (concatC a b).1), .d (.int .i64 (concatC a b).2)] ∧ o = []) := by
  have ok := cfT_ok ts9_ok
  refine C_of_run (fn := Try.f19) (body := coC) true (by kernel_rfl) (by kernel_rfl) (by kernel_rfl) ?_
  have ka := isL_chL ha
  have kb := isL_chL hb
  obtain ⟨l, hl⟩ : ∃ l, a.map chD = l := ⟨_, rfl⟩
  obtain ⟨l2, hl2⟩ : ∃ l2, b.map chD = l2 := ⟨_, rfl⟩
  have ka' : isL (.lst 4 l false) = true := by rw [← hl]; exact ka
  have kb' : isL (.lst 4 l2 false) = true := by rw [← hl2]; exact kb
  have ea : unL (.lst 4 l false) = a := by rw [← hl]; exact unL_chL a
  have eb : unL (.lst 4 l2 false) = b := by rw [← hl2]; exact unL_chL b
  have fin : ∀ {i : Int} {ma mb : Bool}, True := fun {_ _ _} => trivial
  show WK Try.prog 0 _ (ini 28 [.d (.lst 4 (a.map chD) false), .d (.lst 4 (b.map chD) false)] []).den _
  rw [hl, hl2]
  refine WK.segA ok 1000 0 [] [] [0, 1, 11, 12] [] [] rfl (by kernel_rfl : runSegA (cfT ts9) 1000 0 _ _ _ _ (ini 28 [.d (.lst 4 l false), .d (.lst 4 l2 false)] []) = some (stackAt coC 0, cc1 l l2 0, _, _)) trivial trivial ?_
  skip
  by_cases h1 : mayL a = true
  · have q1 : RVle (.d (.bool ((if mayL (unL (.lst 4 l false)) = true then (0 : Int) else 2) != 0))) (.d (.bool false)) := le_bool (by rw [ea, h1]; rfl)
    have hrun : runSegA (cfT ts9) 1000 0 [(14, RV.d (DV.lst 4 l false)), (18, RV.d (DV.bool false))] [] [0, 1, 11, 12] (stackAt coC 0) (cc1 l l2 0) = some (stackAt coC 0, cc1 l l2 1, [true, isL (DV.lst 4 l false)], [(RV.d (DV.lst 4 l false), RV.d (DV.lst 4 l false)), (RV.d (DV.bool ((if Plain.mayL (unL (DV.lst (4) l false)) = true then (0 : Int) else 2) != 0)), RV.d (DV.bool false))]) := by kernel_rfl
    refine WK.segA (st := (cc1 l l2 0)) (st' := cc1 l l2 1) (k := (stackAt coC 0)) (k' := stackAt coC 0) ok 1000 0 _ _ _ _ _ rfl hrun (by refine ⟨?_, ?_, trivial⟩ <;> (first | rfl | exact ka' | exact kb')) (by refine ⟨?_, ?_, trivial⟩ <;> (first | exact .of_eq rfl | exact q1)) ?_
    skip
    by_cases h2 : mayL b = true
    · have q2 : RVle (.d (.bool ((if mayL (unL (.lst 4 l2 false)) = true then (0 : Int) else 2) != 0))) (.d (.bool false)) := le_bool (by rw [eb, h2]; rfl)
      have hrun : runSegA (cfT ts9) 1000 0 [(14, RV.d (DV.lst 4 l2 false)), (18, RV.d (DV.bool false))] [] [0, 1, 11, 12] (stackAt coC 0) (cc1 l l2 1) = some (stackAt coC 0, cc1 l l2 2, [true, isL (DV.lst 4 l2 false)], [(RV.d (DV.lst 4 l2 false), RV.d (DV.lst 4 l2 false)), (RV.d (DV.bool ((if Plain.mayL (unL (DV.lst (4) l2 false)) = true then (0 : Int) else 2) != 0)), RV.d (DV.bool false))]) := by kernel_rfl
      refine WK.segA (st := (cc1 l l2 1)) (st' := cc1 l l2 2) (k := (stackAt coC 0)) (k' := stackAt coC 0) ok 1000 0 _ _ _ _ _ rfl hrun (by refine ⟨?_, ?_, trivial⟩ <;> (first | rfl | exact ka' | exact kb')) (by refine ⟨?_, ?_, trivial⟩ <;> (first | exact .of_eq rfl | exact q2)) ?_
      skip
      have hc : concatC a b = mergeC (a ++ b) := by unfold concatC; rw [h1, h2]; rfl
      rw [hc]
      obtain ⟨ma, la⟩ := mayL_all h1
      obtain ⟨mb, lb⟩ := mayL_all h2
      have eab : unL (.lst 4 (l ++ l2) false) = a ++ b := by rw [← hl, ← hl2, ← List.map_append]; exact unL_chL _
      have kab : isL (.lst 4 (l ++ l2) false) = true := by
        rw [← hl, ← hl2, ← List.map_append]
        exact isL_chL ⟨by simp only [List.length_append]; omega, fun c hc => by
          rcases List.mem_append.1 hc with hc | hc
          · exact ha.2 c hc
          · exact hb.2 c hc⟩
      have kma : (unL (.lst 4 (l ++ l2) false)).all mayC = true := by
        rw [eab, List.all_eq_true]
        intro c hc
        rcases List.mem_append.1 hc with hc | hc
        · exact ma c hc
        · exact mb c hc
      have kle : decide ((unL (.lst 4 (l ++ l2) false)).length ≤ 10000) = true := decide_eq_true (by rw [eab, List.length_append]; omega)
      have klen : decide ((l.length + l2.length) * 88 ≤ 2 ^ 38) = true := decide_eq_true (by rw [← hl, ← hl2, List.length_map, List.length_map]; omega)
      have hrun : runEnd (cfT ts9) true (Try.f19.results.toList) 1000 0 [] (stackAt coC 0) (cc1 l l2 2) = some (.tup [.d (chL (mergeC (unL (.lst 4 (l ++ l2) false))).1), .d (.int .i64 (mergeC (unL (.lst 4 (l ++ l2) false))).2)], [], [isL (.lst 4 l false), decide ((l.length + l2.length) * 88 ≤ 2 ^ 38), isL (.lst 4 (l ++ l2) false), (unL (.lst 4 (l ++ l2) false)).all mayC, decide ((unL (.lst 4 (l ++ l2) false)).length ≤ 10000)], []) := by kernel_rfl
      exact WK.fin ok 1000 0 _ _ _ rfl hrun ⟨ka', klen, kab, kma, kle, trivial⟩ trivial ⟨by rw [eab], rfl⟩
    · have h2' : mayL b = false := by simpa using h2
      have q2 : RVle (.d (.bool ((if mayL (unL (.lst 4 l2 false)) = true then (0 : Int) else 2) != 0))) (.d (.bool true)) := le_bool (by rw [eb, h2']; rfl)
      have q3 : (if mayL (unL (.lst 4 l2 false)) = true then (0 : Int) else 2) = 2 := by rw [eb, h2']; rfl
      have hc : concatC a b = ([], 2) := by unfold concatC; rw [h2', Bool.and_false]; rfl
      rw [hc]
      exact WK.fin ok 1000 0 [(14, RV.d (DV.lst 4 l2 false)), (18, RV.d (DV.bool true)), (4, RV.d (DV.lst 4 [] false))] [true, isL (DV.lst 4 l2 false)] [(RV.d (DV.lst 4 l2 false), RV.d (DV.lst 4 l2 false)), (RV.d (DV.bool ((if Plain.mayL (unL (DV.lst (4) l2 false)) = true then (0 : Int) else 2) != 0)), RV.d (DV.bool true)), (RV.d (DV.lst 0 [] true), RV.d (DV.lst 4 [] false))] rfl (by kernel_rfl : runEnd (cfT ts9) true _ 1000 0 _ _ (cc1 l l2 1) = some (RV.tup [RV.d (DV.lst 4 [] false), RV.d (DV.int Go.IntKind.i64 (if Plain.mayL (unL (DV.lst (4) l2 false)) = true then (0 : Int) else 2))], [], _, _)) (by refine ⟨?_, ?_, trivial⟩ <;> (first | rfl | exact ka' | exact kb')) (by refine ⟨?_, ?_, ?_, trivial⟩ <;> (first | exact q2 | exact nil_leM | exact .of_eq rfl)) ⟨by show RV.tup [_, .d (.int .i64 (if mayL (unL (.lst 4 l2 false)) = true then (0 : Int) else 2))] = _; rw [q3]; rfl, rfl⟩
  · have h1' : mayL a = false := by simpa using h1
    have q2 : RVle (.d (.bool ((if mayL (unL (.lst 4 l false)) = true then (0 : Int) else 2) != 0))) (.d (.bool true)) := le_bool (by rw [ea, h1']; rfl)
    have q3 : (if mayL (unL (.lst 4 l false)) = true then (0 : Int) else 2) = 2 := by rw [ea, h1']; rfl
    have hc : concatC a b = ([], 2) := by unfold concatC; rw [h1', Bool.false_and]; rfl
    rw [hc]
    exact WK.fin ok 1000 0 [(14, RV.d (DV.lst 4 l false)), (18, RV.d (DV.bool true)), (4, RV.d (DV.lst 4 [] false))] [true, isL (DV.lst 4 l false)] [(RV.d (DV.lst 4 l false), RV.d (DV.lst 4 l false)), (RV.d (DV.bool ((if Plain.mayL (unL (DV.lst (4) l false)) = true then (0 : Int) else 2) != 0)), RV.d (DV.bool true)), (RV.d (DV.lst 0 [] true), RV.d (DV.lst 4 [] false))] rfl (by kernel_rfl : runEnd (cfT ts9) true _ 1000 0 _ _ (cc1 l l2 0) = some (RV.tup [RV.d (DV.lst 4 [] false), RV.d (DV.int Go.IntKind.i64 (if Plain.mayL (unL (DV.lst (4) l false)) = true then (0 : Int) else 2))], [], _, _)) (by refine ⟨?_, ?_, trivial⟩ <;> (first | rfl | exact ka' | exact kb')) (by refine ⟨?_, ?_, ?_, trivial⟩ <;> (first | exact q2 | exact nil_leM | exact .of_eq rfl)) ⟨by show RV.tup [_, .d (.int .i64 (if mayL (unL (.lst 4 l false)) = true then (0 : Int) else 2))] = _; rw [q3]; rfl, rfl⟩
/-! ### Invert -/
theorem set_inv {l : List Chg} {i : Nat} {x y : Chg} (h : l[i]? = some y) :
    ((l.map chD).set i (.agg (splice (((l.map chD).getD i .nilp).cells) 2 [rD x.n]))).set i (.agg (splice ((((l.map chD).set i (.agg (splice (((l.map chD).getD i .nilp).cells) 2 [rD x.n]))).getD i .nilp).cells) 3 [rD x.o])) = (l.set i ⟨y.t, y.k, x.n, x.o⟩).map chD := by
  have e1 : (l.map chD).set i (.agg (splice (((l.map chD).getD i .nilp).cells) 2 [rD x.n])) = (l.set i ⟨y.t, y.k, x.n, y.n⟩).map chD := by
    rw [getD_of h, ← map_set']; rfl
  rw [e1]
  have g2 : (l.set i ⟨y.t, y.k, x.n, y.n⟩)[i]? = some ⟨y.t, y.k, x.n, y.n⟩ := by
    rw [List.getElem?_set_self (lt_of_some h)]
  rw [getD_of g2]
  have : (DV.agg (splice (chD ⟨y.t, y.k, x.n, y.n⟩).cells 3 [rD x.o])) = chD ⟨y.t, y.k, x.n, x.o⟩ := rfl
  rw [this, map_set', List.set_set]
theorem Invert_c (L : List Chg) (hok : okL L) : C Try.prog 28 [.d (chL L)] [] (fun r o => r = .tup [.d (chL (invertC L).1), .d (.int .i64 (invertC L).2)] ∧ o = []) := by
  have ok := cfT_ok ts9_ok
  refine C_of_run (fn := Try.f28) (body := inC2) true (by kernel_rfl) (by kernel_rfl) (by kernel_rfl) ?_
  have ka := isL_chL hok
  have hl6 := hok.1
  by_cases h1 : mayL L = true
  · have hI : invertC L = (L.map invC, 0) := by unfold invertC; rw [h1]; rfl
    rw [hI]
    have hloop : WK Try.prog 0 (stackAt inC2 0) (iv1 (L.map chD) (L.map chD) 0).den (Ends (Try.f28.results.toList) (.tup [.d (chL (L.map invC)), .d (.int .i64 0)])) := by
      have key := WK.rec' (P := Try.prog) (m := 0) (k := stackAt inC2 0) (Q := Ends (Try.f28.results.toList) (.tup [.d (chL (L.map invC)), .d (.int .i64 0)])) (fun (i : Nat) => iv1 (((L.map invC).take i ++ L.drop i).map chD) (L.map chD) (i : Int)) (fun i => i ≤ L.length) (fun i => L.length - i) ?_ 0 (Nat.zero_le _)
      · exact key
      intro i hi ih
      have lt : ((L.map invC).take i).length = i := by rw [List.length_take, List.length_map]; omega
      by_cases hlt : i < L.length
      · obtain ⟨x, hx⟩ : ∃ x, L[i] = x := ⟨_, rfl⟩
        have ex : L.drop i = x :: L.drop (i + 1) := by rw [List.drop_eq_getElem_cons hlt, hx]
        have tx : (L.map invC).take (i + 1) = (L.map invC).take i ++ [invC x] := by rw [List.take_add_one, List.getElem?_map, List.getElem?_eq_getElem hlt, hx]; rfl
        have gx : ((L.map invC).take i ++ L.drop i)[i]? = some x := by rw [ex]; exact get_mid _ _ _ _ lt.symm
        have hw := ih (i + 1) hlt (by omega)
        have es : ((L.map invC).take i ++ L.drop i).set i ⟨x.t, x.k, x.n, x.o⟩ = (L.map invC).take (i + 1) ++ L.drop (i + 1) := by
          rw [ex, set_mid _ _ _ _ _ lt.symm, tx]; simp [invC]
        rw [← es, ← set_inv (x := x) gx] at hw
        have b1 := bd_in gx
        have b2 := bd_in2 gx
        have b3 := bd_ble gx
        have hb1 := bd_map (f := chD) hlt
        have hb2 := ov_chg hlt hx
        have hb3 : decide ((Nat.cast (R := Int) i) < (Nat.cast (R := Int) (L.map chD).length)) = true := decide_eq_true (by rw [List.length_map]; omega)
        have b4 : Nat.ble 3 ((((L.map invC).take i ++ L.drop i).map chD).getD (Nat.cast (R := Int) i).toNat .nilp).cells.length = true := by rw [Int.toNat_natCast, getD_of gx]; rfl
        obtain ⟨O, hO⟩ : ∃ O, (L.map invC).take i ++ L.drop i = O := ⟨_, rfl⟩
        rw [hO] at hw gx b1 b2 b3 b4 ⊢
        obtain ⟨z, hz⟩ : ∃ z, (DV.agg (splice ((((O.map chD).getD i .nilp).cells)) 2 [rD x.n])) = z := ⟨_, rfl⟩
        have c1 : decide ((0 : Int) ≤ (Nat.cast (R := Int) i) ∧ (Nat.cast (R := Int) i) < (Nat.cast (R := Int) ((O.map chD).set i z).length)) = true := by rw [List.length_set]; exact b1
        have c2 : decide ((Nat.cast (R := Int) i).toNat < ((O.map chD).set i z).length) = true := by rw [List.length_set]; exact b2
        have c3 : Nat.ble 4 (((O.map chD).set i z).getD (Nat.cast (R := Int) i).toNat .nilp).cells.length = true := by
          rw [Int.toNat_natCast, List.getD_eq_getElem?_getD, List.getElem?_set_self (by rw [List.length_map]; exact lt_of_some gx), ← hz, getD_of gx]; rfl
        rw [← hz] at c1 c2 c3
        clear hz hO es tx ex lt ih
        obtain ⟨out, hout⟩ : ∃ out, O.map chD = out := ⟨_, rfl⟩
        obtain ⟨l, hl⟩ : ∃ l, L.map chD = l := ⟨_, rfl⟩
        rw [hout] at hw b1 b2 b3 b4 c1 c2 c3 ⊢
        rw [hl] at hw hb1 hb2 hb3 ⊢
        refine WK.segA ok 1000 0 [(18, RV.d (DV.bool true)), (20, RV.iptr (DV.agg [DV.str x.1, DV.lst 3 (List.map vD x.2) false, DV.lst 3 (List.map vD x.3) false, DV.lst 3 (List.map vD x.4) false]) 0), (34, RV.d (DV.int Go.IntKind.i64 (Nat.cast (R := Int) (i + 1))))] [] [5, 15, 16, 17] [decide (0 ≤ (Nat.cast (R := Int) i) ∧ (Nat.cast (R := Int) i) < (Nat.cast (R := Int) l.length)), decide (0 ≤ (Nat.cast (R := Int) i) ∧ (Nat.cast (R := Int) i) < (Nat.cast (R := Int) out.length)), decide ((Nat.cast (R := Int) i).toNat < out.length), Nat.ble 3 (out.getD (Nat.cast (R := Int) i).toNat DV.nilp).cells.length, decide (0 ≤ (Nat.cast (R := Int) i) ∧ (Nat.cast (R := Int) i) < (Nat.cast (R := Int) (out.set (Nat.cast (R := Int) i).toNat (DV.agg (splice (out.getD (Nat.cast (R := Int) i).toNat DV.nilp).cells 2 (rD x.n).cells))).length)), decide ((Nat.cast (R := Int) i).toNat < (out.set (Nat.cast (R := Int) i).toNat (DV.agg (splice (out.getD (Nat.cast (R := Int) i).toNat DV.nilp).cells 2 (rD x.n).cells))).length), Nat.ble 4 ((out.set (Nat.cast (R := Int) i).toNat (DV.agg (splice (out.getD (Nat.cast (R := Int) i).toNat DV.nilp).cells 2 (rD x.n).cells))).getD (Nat.cast (R := Int) i).toNat DV.nilp).cells.length] [(RV.d (DV.bool (decide ((Nat.cast (R := Int) i) < (Nat.cast (R := Int) l.length)))), RV.d (DV.bool true)), (RV.iptr (l.getD (Nat.cast (R := Int) i).toNat DV.nilp) 0, RV.iptr (DV.agg [DV.str x.1, DV.lst 3 (List.map vD x.2) false, DV.lst 3 (List.map vD x.3) false, DV.lst 3 (List.map vD x.4) false]) 0), (RV.d (DV.int Go.IntKind.i64 (Go.IntKind.i64.wrap ((Nat.cast (R := Int) i) + 1))), RV.d (DV.int Go.IntKind.i64 (Nat.cast (R := Int) (i + 1))))] rfl (by kernel_rfl : runSegA (cfT ts9) 1000 0 _ _ _ _ (iv1 out l (i : Int)) = some (stackAt inC2 0, iv1 ((out.set i (.agg (splice ((out.getD i .nilp).cells) 2 [rD x.n]))).set i (.agg (splice (((out.set i (.agg (splice ((out.getD i .nilp).cells) 2 [rD x.n]))).getD i .nilp).cells) 3 [rD x.o]))) l ((i + 1 : Nat) : Int), _, _)) (by refine ⟨?_, ?_, ?_, ?_, ?_, ?_, ?_, trivial⟩ <;> (first | exact hb1 | exact b1 | exact b2 | exact b4 | exact b3 | exact c1 | exact c2 | exact c3)) (by refine ⟨?_, ?_, ?_, trivial⟩ <;> (first | exact le_bool hb3 | exact hb2 | exact ov_succ (by omega))) ?_
        exact hw
      · have e : i = L.length := by omega
        have eL : (L.map invC).take i ++ L.drop i = L.map invC := by rw [e, List.drop_eq_nil_of_le (Nat.le_refl _), List.take_of_length_le (by rw [List.length_map]; exact Nat.le_refl _), List.append_nil]
        rw [eL]
        have hf : decide ((Nat.cast (R := Int) i) < (Nat.cast (R := Int) (L.map chD).length)) = false := decide_eq_false (by rw [List.length_map]; omega)
        show WK Try.prog 0 _ _ (Ends (Try.f28.results.toList) (.tup [.d (.lst 4 ((L.map invC).map chD) false), .d (.int .i64 0)]))
        obtain ⟨out, hout⟩ : ∃ out, (L.map invC).map chD = out := ⟨_, rfl⟩
        obtain ⟨l, hl⟩ : ∃ l, L.map chD = l := ⟨_, rfl⟩
        rw [hout]
        rw [hl] at hf ⊢
        exact WK.fin ok 1000 0 [(18, RV.d (DV.bool false))] [] [(RV.d (DV.bool (decide ((Nat.cast (R := Int) i) < (Nat.cast (R := Int) l.length)))), RV.d (DV.bool false))] rfl (by kernel_rfl : runEnd (cfT ts9) true _ 1000 0 _ _ (iv1 out l (i : Int)) = some (RV.tup [RV.d (DV.lst 4 out false), RV.d (DV.int Go.IntKind.i64 (0))], [], _, _)) trivial ⟨(by exact le_bool hf), trivial⟩ ⟨rfl, rfl⟩
    have q1 : RVle (.d (.bool ((if mayL (unL (chL L)) = true then (0 : Int) else 2) != 0))) (.d (.bool false)) := le_bool (by rw [unL_chL, h1]; rfl)
    refine WK.segA ok 1000 0 [(11, RV.d (DV.bool false))] [] [5, 15, 16, 17] [isL (DV.lst 4 (L.map chD) false), isL (DV.lst 4 (L.map chD) false)] [(RV.d (DV.bool ((if Plain.mayL (unL (DV.lst (4) (L.map chD) false)) = true then (0 : Int) else 2) != 0)), RV.d (DV.bool false))] rfl (by kernel_rfl : runSegA (cfT ts9) 1000 0 _ _ _ _ (ini 36 [.d (.lst 4 (L.map chD) false)] []) = some (stackAt inC2 0, iv1 (L.map chD) (L.map chD) 0, _, _)) (by refine ⟨?_, ?_, trivial⟩ <;> (first | exact ka)) ⟨(by exact q1), trivial⟩ ?_
    exact hloop
  · have h1' : mayL L = false := by simpa using h1
    have hI : invertC L = ([], 2) := by unfold invertC; rw [h1']; rfl
    rw [hI]
    have q1 : RVle (.d (.bool ((if mayL (unL (chL L)) = true then (0 : Int) else 2) != 0))) (.d (.bool true)) := le_bool (by rw [unL_chL, h1']; rfl)
    have q3 : (if mayL (unL (chL L)) = true then (0 : Int) else 2) = 2 := by rw [unL_chL, h1']; rfl
    exact WK.fin ok 1000 0 [(11, RV.d (DV.bool true)), (2, RV.d (DV.lst 4 [] false))] [isL (DV.lst 4 (L.map chD) false)] [(RV.d (DV.lst 0 [] true), RV.d (DV.lst 4 [] false)), (RV.d (DV.bool ((if Plain.mayL (unL (DV.lst (4) (L.map chD) false)) = true then (0 : Int) else 2) != 0)), RV.d (DV.bool true)), (RV.d (DV.lst 0 [] true), RV.d (DV.lst 4 [] false))] rfl (by kernel_rfl : runEnd (cfT ts9) true _ 1000 0 _ _ (ini 36 [.d (.lst 4 (L.map chD) false)] []) = some (RV.tup [RV.d (DV.lst 4 [] false), RV.d (DV.int Go.IntKind.i64 (if Plain.mayL (unL (DV.lst (4) (L.map chD) false)) = true then (0 : Int) else 2))], [], _, _)) ⟨(by first | exact ka), trivial⟩ (by refine ⟨?_, ?_, ?_, trivial⟩ <;> (first | exact q1 | exact nil_leM)) ⟨by show RV.tup [_, .d (.int .i64 (if mayL (unL (chL L)) = true then (0 : Int) else 2))] = _; rw [q3]; rfl, rfl⟩
end Go.Proofs.Ytljfolepmkcjlaa

/-
  The law's bound on sizes (great, of the laws on changes); the reference's Concat.
-/
namespace Go.Proofs.Ytljfolepmkcjlaa
open Go.RowKit Plain Am IntWalk
set_option maxRecDepth 100000
set_option linter.unusedVariables false
set_option linter.unusedSimpArgs false

noncomputable abbrev g2C : Code := bodyOf Try.f23
def g2S (l : List DV) (n i : Int) : ESt := { n := 57, m := 0, regs := T.mk [(0, .d (.lst 4 l false)), (3, .d (.int .i64 n)), (10, .d (.lst 4 l false)), (11, .d (.int .i64 (l.length : Int))), (12, .d (.int .i64 i))], objs := T.nil }
def g2R (l : List DV) (n i : Int) (c : Chg) (j : Int) : ESt := { n := 57, m := 0, regs := T.mk [(0, .d (.lst 4 l false)), (3, .d (.int .i64 n)), (10, .d (.lst 4 l false)), (11, .d (.int .i64 (l.length : Int))), (12, .d (.int .i64 i)), (29, .d (.agg [rD c.k, rD c.o, rD c.n])), (30, .d (.int .i64 j))], objs := T.nil }
def g2V (l : List DV) (n i : Int) (c : Chg) (j : Int) (row : List DV) (q : Int) : ESt := { n := 57, m := 0, regs := T.mk [(0, .d (.lst 4 l false)), (3, .d (.int .i64 n)), (10, .d (.lst 4 l false)), (11, .d (.int .i64 (l.length : Int))), (12, .d (.int .i64 i)), (29, .d (.agg [rD c.k, rD c.o, rD c.n])), (30, .d (.int .i64 j)), (36, .d (.lst 3 row false)), (37, .d (.int .i64 (row.length : Int))), (38, .d (.int .i64 q))], objs := T.nil }
def m8 (s : Bs) : Int := if (8192 : Int) < (Nat.cast (R := Int) s.length) then 8192 else (Nat.cast (R := Int) s.length)
def m4 (s : Bs) : Int := if (4096 : Int) < (Nat.cast (R := Int) s.length) then 4096 else (Nat.cast (R := Int) s.length)
def sum8 (n : Int) (row : List Val) : Int := row.foldl (fun a v => a + (1 + m8 v.s)) n
def gr2Go : Int → List Chg → Bool
  | _, [] => false
  | n, x :: r => decide (40 < x.k.length) || decide (40 < x.o.length) || decide (40 < x.n.length) || decide (32768 < sum8 (sum8 (sum8 (n + (4 + m4 x.t)) x.k) x.o) x.n) || gr2Go (sum8 (sum8 (sum8 (n + (4 + m4 x.t)) x.k) x.o) x.n) r
def great2 (l : List Chg) : Bool := gr2Go 0 l || decide (1200 < l.length)
theorem m8_b (s : Bs) : 0 ≤ m8 s ∧ m8 s ≤ 8192 := by unfold m8; split <;> omega
theorem m4_b (s : Bs) : 0 ≤ m4 s ∧ m4 s ≤ 4096 := by unfold m4; split <;> omega
theorem sum8_app (n : Int) (a b : List Val) : sum8 n (a ++ b) = sum8 (sum8 n a) b := by unfold sum8; rw [List.foldl_append]
theorem sum8_b : ∀ (row : List Val) (n : Int), n ≤ sum8 n row ∧ sum8 n row ≤ n + 8193 * row.length
  | [], n => by simp [sum8]
  | v :: r, n => by
    have h := sum8_b r (n + (1 + m8 v.s))
    have hm := m8_b v.s
    have e : sum8 n (v :: r) = sum8 (n + (1 + m8 v.s)) r := rfl
    rw [e, List.length_cons]
    omega
theorem gr2Go_no : ∀ {l : List Chg} {n : Int}, gr2Go n l = false → ∀ c ∈ l, c.k.length ≤ 40 ∧ c.o.length ≤ 40 ∧ c.n.length ≤ 40
  | [], _, _, c, hc => by simp at hc
  | x :: r, n, h, c, hc => by
    simp only [gr2Go, Bool.or_eq_false_iff, decide_eq_false_iff_not] at h
    rcases List.mem_cons.1 hc with rfl | hc
    · omega
    · exact gr2Go_no h.2 c hc
theorem great2_no {l : List Chg} (h : great2 l = false) (hw : ∀ c ∈ l, c.wf) : okL l := by
  simp only [great2, Bool.or_eq_false_iff, decide_eq_false_iff_not] at h
  refine ⟨by omega, fun c hc => ?_⟩
  have := gr2Go_no h.1 c hc
  exact ⟨hw c hc, by omega, by omega, by omega⟩
abbrev EndsG2 (b : Bool) : SSt → Prop := Ends (Try.f23.results.toList) (.d (.bool b))
theorem ov_m4 {n n2 : Int} {t : Bs} (h : n + (4 + m4 t) = n2) (hn : 0 ≤ n ∧ n ≤ 1000000) : RVle (.d (.int .i64 (IntKind.i64.wrap (n + IntKind.i64.wrap (4 + if (4096 : Int) < (Nat.cast (R := Int) t.length) then 4096 else (Nat.cast (R := Int) t.length)))))) (.d (.int .i64 n2)) := .of_eq (by
  have hm := m4_b t
  show RV.d (.int .i64 (IntKind.i64.wrap (n + IntKind.i64.wrap (4 + m4 t)))) = _
  rw [i64_in (4 + m4 t) (by omega), i64_in _ (by omega), h])
theorem ov_m8 {n n2 : Int} {t : Bs} (h : n + (1 + m8 t) = n2) (hn : 0 ≤ n ∧ n ≤ 10000000) : RVle (.d (.int .i64 (IntKind.i64.wrap (n + IntKind.i64.wrap (1 + if (8192 : Int) < (Nat.cast (R := Int) t.length) then 8192 else (Nat.cast (R := Int) t.length)))))) (.d (.int .i64 n2)) := .of_eq (by
  have hm := m8_b t
  show RV.d (.int .i64 (IntKind.i64.wrap (n + IntKind.i64.wrap (1 + m8 t)))) = _
  rw [i64_in (1 + m8 t) (by omega), i64_in _ (by omega), h])
theorem g2_inner (l : List DV) (n : Int) (hn : 0 ≤ n ∧ n ≤ 2000000) (i : Nat) (x : Chg) (j : Nat) (hj : j ≤ 3) (row : List Val) (hr : row.length ≤ 40) (b : Bool)
    (hk : WK Try.prog 0 (stackAt g2C 1) (g2R l (sum8 n row) (i : Int) x ((j + 1 : Nat) : Int)).den (EndsG2 b)) : WK Try.prog 0 (stackAt g2C 2) (g2V l n (i : Int) x (j : Int) (row.map vD) 0).den (EndsG2 b) := by
  have ok := cfT_ok (l := []) .nil
  have hrl : (row.map vD).length = row.length := List.length_map ..
  have key := WK.rec' (P := Try.prog) (m := 0) (k := stackAt g2C 2) (Q := EndsG2 b) (fun (q : Nat) => g2V l (sum8 n (row.take q)) (i : Int) x (j : Int) (row.map vD) (q : Int)) (fun q => q ≤ row.length) (fun q => row.length - q) ?_ 0 (Nat.zero_le _)
  · exact key
  intro q hq ih
  have hb := sum8_b (row.take q) n
  have hbl : (row.take q).length ≤ 40 := by rw [List.length_take]; omega
  by_cases hlt : q < row.length
  · obtain ⟨v, hv⟩ : ∃ v, row[q] = v := ⟨_, rfl⟩
    have hw := ih (q + 1) hlt (by omega)
    have tx : row.take (q + 1) = row.take q ++ [v] := by rw [List.take_add_one, List.getElem?_eq_getElem hlt, hv]; rfl
    rw [tx, sum8_app] at hw
    obtain ⟨m, hm⟩ : ∃ m, sum8 n (row.take q) = m := ⟨_, rfl⟩
    rw [hm] at hb hw ⊢
    obtain ⟨n2, hn2⟩ : ∃ n2, m + (1 + m8 v.s) = n2 := ⟨_, rfl⟩
    have e2 : sum8 m [v] = n2 := hn2
    rw [e2] at hw
    have b1 := bd_map (f := vD) hlt
    have b2 := ov_val hlt hv
    have b3 : decide ((Nat.cast (R := Int) q) < (Nat.cast (R := Int) (row.map vD).length)) = true := decide_eq_true (by omega)
    have b4 := ov_m8 hn2 (by omega)
    obtain ⟨rwl, hrw⟩ : ∃ r, row.map vD = r := ⟨_, rfl⟩
    rw [hrw] at hw b1 b2 b3 ⊢
    clear ih hk
    refine WK.segA ok 1000 0 [(39, RV.d (DV.bool true)), (40, RV.iptr (DV.agg [DV.int Go.IntKind.u8 v.1, DV.int Go.IntKind.i64 v.2, DV.str v.3]) 0), (48, RV.d (DV.int Go.IntKind.i64 n2)), (49, RV.d (DV.int Go.IntKind.i64 (Nat.cast (R := Int) (q + 1))))] [] [0, 3, 10, 11, 12, 29, 30, 36, 37, 38] [decide (0 ≤ (Nat.cast (R := Int) q) ∧ (Nat.cast (R := Int) q) < (Nat.cast (R := Int) rwl.length))] [(RV.d (DV.bool (decide ((Nat.cast (R := Int) q) < (Nat.cast (R := Int) rwl.length)))), RV.d (DV.bool true)), (RV.iptr (rwl.getD (Nat.cast (R := Int) q).toNat DV.nilp) 0, RV.iptr (DV.agg [DV.int Go.IntKind.u8 v.1, DV.int Go.IntKind.i64 v.2, DV.str v.3]) 0), (RV.d (DV.int Go.IntKind.i64 (Go.IntKind.i64.wrap (m + Go.IntKind.i64.wrap (1 + if 8192 < (Nat.cast (R := Int) (List.length v.s)) then 8192 else (Nat.cast (R := Int) (List.length v.3)))))), RV.d (DV.int Go.IntKind.i64 n2)), (RV.d (DV.int Go.IntKind.i64 (Go.IntKind.i64.wrap ((Nat.cast (R := Int) q) + 1))), RV.d (DV.int Go.IntKind.i64 (Nat.cast (R := Int) (q + 1))))] rfl (by kernel_rfl : runSegA (cfT []) 1000 0 _ _ _ _ (g2V l m (i : Int) x (j : Int) rwl (q : Int)) = some (stackAt g2C 2, g2V l n2 (i : Int) x (j : Int) rwl ((q + 1 : Nat) : Int), _, _)) ⟨(by exact b1), trivial⟩ (by refine ⟨?_, ?_, ?_, ?_, trivial⟩ <;> (first | exact le_bool b3 | exact b2 | exact b4 | exact ov_succ (by omega))) ?_
    exact hw
  · have e : row.take q = row := List.take_of_length_le (by omega)
    rw [e]
    obtain ⟨m, hm⟩ : ∃ m, sum8 n row = m := ⟨_, rfl⟩
    rw [hm] at hk ⊢
    have hf : decide ((Nat.cast (R := Int) q) < (Nat.cast (R := Int) (row.map vD).length)) = false := decide_eq_false (by omega)
    obtain ⟨rwl, hrw⟩ : ∃ r, row.map vD = r := ⟨_, rfl⟩
    rw [hrw] at hf ⊢
    clear ih
    refine WK.segA ok 1000 0 [(39, RV.d (DV.bool false)), (50, RV.d (DV.int Go.IntKind.i64 (Nat.cast (R := Int) (j + 1))))] [] [0, 3, 10, 11, 12, 29, 30] [] [(RV.d (DV.bool (decide ((Nat.cast (R := Int) q) < (Nat.cast (R := Int) rwl.length)))), RV.d (DV.bool false)), (RV.d (DV.int Go.IntKind.i64 (Go.IntKind.i64.wrap ((Nat.cast (R := Int) j) + 1))), RV.d (DV.int Go.IntKind.i64 (Nat.cast (R := Int) (j + 1))))] rfl (by kernel_rfl : runSegA (cfT []) 1000 0 _ _ _ _ (g2V l m (i : Int) x (j : Int) rwl (q : Int)) = some (stackAt g2C 1, g2R l m (i : Int) x ((j + 1 : Nat) : Int), _, _)) trivial (by refine ⟨?_, ?_, trivial⟩ <;> (first | exact le_bool hf | exact ov_succ (by omega))) ?_
    exact hk
theorem gt40 (r : List Val) (b : Bool) (h : decide (40 < r.length) = b) : decide ((40 : Int) < (Nat.cast (R := Int) (r.map vD).length)) = b := by
  rw [← h, List.length_map]
  apply Bool.eq_iff_iff.2; simp only [decide_eq_true_eq]; omega
theorem g2_c (L : List Chg) (hl : L.length ≤ 9223372036854775807) : C Try.prog 23 [.d (chL L)] [] (fun r o => r = .d (.bool (great2 L)) ∧ o = []) := by
  have ok := cfT_ok (l := []) .nil
  refine C_of_run (fn := Try.f23) (body := g2C) true (by kernel_rfl) (by kernel_rfl) (by kernel_rfl) ?_
  have hloop : WK Try.prog 0 (stackAt g2C 0) (g2S (L.map chD) 0 0).den (EndsG2 (great2 L)) := by
    refine WK.rec' (fun (q : Int × Nat) => g2S (L.map chD) q.1 (q.2 : Int)) (fun q => q.2 ≤ L.length ∧ (4 * (q.2 : Int) ≤ q.1 ∧ q.1 ≤ 32768) ∧ (gr2Go q.1 (L.drop q.2) || decide (1200 < L.length)) = great2 L) (fun q => L.length - q.2) ?_ (0, 0) ⟨Nat.zero_le _, ⟨by decide, by decide⟩, rfl⟩
    rintro ⟨n, i⟩ ⟨hi, hn, hg⟩ ih
    simp only at hi hn hg ih ⊢
    by_cases hlt : i < L.length
    · obtain ⟨x, hx⟩ : ∃ x, L[i] = x := ⟨_, rfl⟩
      rw [List.drop_eq_getElem_cons hlt, hx] at hg
      simp only [gr2Go] at hg
      obtain ⟨n0, hn0⟩ : ∃ n0, n + (4 + m4 x.t) = n0 := ⟨_, rfl⟩
      rw [hn0] at hg
      have hm4 := m4_b x.t
      have b1 := bd_map (f := chD) hlt
      have b2 := ov_chg hlt hx
      have b3 : decide ((Nat.cast (R := Int) i) < (Nat.cast (R := Int) (L.map chD).length)) = true := decide_eq_true (by rw [List.length_map]; omega)
      have b4 := ov_m4 hn0 (by omega)
      have hbody : WK Try.prog 0 (stackAt g2C 1) (g2R (L.map chD) n0 (i : Int) x 0).den (EndsG2 (great2 L)) := by
        obtain ⟨l, hl'⟩ : ∃ l, L.map chD = l := ⟨_, rfl⟩
        rw [hl'] at ih ⊢
        cases c1 : decide (40 < x.k.length) with
        | true =>
          have hG : great2 L = true := by rw [← hg, c1]; rfl
          rw [hG]
          have d1 := gt40 _ _ c1
          clear ih
          exact WK.fin ok 1000 0 [(35, RV.d (DV.bool true))] [true] [(RV.d (DV.bool (decide (40 < (Nat.cast (R := Int) (List.map vD x.k).length)))), RV.d (DV.bool true))] rfl (by kernel_rfl : runEnd (cfT []) true _ 1000 0 _ _ (g2R l n0 (i : Int) x 0) = some (RV.d (DV.bool true), [], _, _)) ⟨(by rfl), trivial⟩ ⟨(by exact le_bool d1), trivial⟩ ⟨rfl, rfl⟩
        | false =>
        have k1 := of_decide_eq_false c1
        have s1 := sum8_b x.k n0
        obtain ⟨n1, hn1⟩ : ∃ n1, sum8 n0 x.k = n1 := ⟨_, rfl⟩
        rw [hn1] at hg s1
        have r1 : WK Try.prog 0 (stackAt g2C 1) (g2R l n1 (i : Int) x 1).den (EndsG2 (great2 L)) := by
          cases c2 : decide (40 < x.o.length) with
          | true =>
            have hG : great2 L = true := by rw [← hg, c2]; simp
            rw [hG]
            have d1 := gt40 _ _ c2
            clear ih
            exact WK.fin ok 1000 0 [(35, RV.d (DV.bool true))] [true] [(RV.d (DV.bool (decide (40 < (Nat.cast (R := Int) (List.map vD x.o).length)))), RV.d (DV.bool true))] rfl (by kernel_rfl : runEnd (cfT []) true _ 1000 0 _ _ (g2R l n1 (i : Int) x 1) = some (RV.d (DV.bool true), [], _, _)) ⟨(by rfl), trivial⟩ ⟨(by exact le_bool d1), trivial⟩ ⟨rfl, rfl⟩
          | false =>
          have k2 := of_decide_eq_false c2
          have s2 := sum8_b x.o n1
          obtain ⟨n2, hn2⟩ : ∃ n2, sum8 n1 x.o = n2 := ⟨_, rfl⟩
          rw [hn2] at hg s2
          have r2 : WK Try.prog 0 (stackAt g2C 1) (g2R l n2 (i : Int) x 2).den (EndsG2 (great2 L)) := by
            cases c3 : decide (40 < x.n.length) with
            | true =>
              have hG : great2 L = true := by rw [← hg, c3]; simp
              rw [hG]
              have d1 := gt40 _ _ c3
              clear ih
              exact WK.fin ok 1000 0 [(35, RV.d (DV.bool true))] [true] [(RV.d (DV.bool (decide (40 < (Nat.cast (R := Int) (List.map vD x.n).length)))), RV.d (DV.bool true))] rfl (by kernel_rfl : runEnd (cfT []) true _ 1000 0 _ _ (g2R l n2 (i : Int) x 2) = some (RV.d (DV.bool true), [], _, _)) ⟨(by rfl), trivial⟩ ⟨(by exact le_bool d1), trivial⟩ ⟨rfl, rfl⟩
            | false =>
            have k3 := of_decide_eq_false c3
            have s3 := sum8_b x.n n2
            obtain ⟨n3, hn3⟩ : ∃ n3, sum8 n2 x.n = n3 := ⟨_, rfl⟩
            rw [hn3] at hg s3
            have r3 : WK Try.prog 0 (stackAt g2C 1) (g2R l n3 (i : Int) x 3).den (EndsG2 (great2 L)) := by
              cases c4 : decide ((32768 : Int) < n3) with
              | true =>
                have hG : great2 L = true := by rw [← hg, c4]; simp
                rw [hG]
                clear ih
                exact WK.fin ok 1000 0 [(52, RV.d (DV.bool true))] [] [(RV.d (DV.bool (decide (32768 < n3))), RV.d (DV.bool true))] rfl (by kernel_rfl : runEnd (cfT []) true _ 1000 0 _ _ (g2R l n3 (i : Int) x 3) = some (RV.d (DV.bool true), [], _, _)) trivial ⟨(by exact le_bool c4), trivial⟩ ⟨rfl, rfl⟩
              | false =>
                have k4 := of_decide_eq_false c4
                rw [c1, c2, c3, c4] at hg
                have hw := ih (n3, i + 1) ⟨hlt, ⟨by simp only; omega, by simp only; omega⟩, by simpa using hg⟩ (by simp only; omega)
                simp only at hw
                clear ih
                refine WK.segA ok 1000 0 [(52, RV.d (DV.bool false)), (53, RV.d (DV.int Go.IntKind.i64 (Nat.cast (R := Int) (i + 1))))] [] [0, 3, 10, 11, 12] [] [(RV.d (DV.bool (decide (32768 < n3))), RV.d (DV.bool false)), (RV.d (DV.int Go.IntKind.i64 (Go.IntKind.i64.wrap ((Nat.cast (R := Int) i) + 1))), RV.d (DV.int Go.IntKind.i64 (Nat.cast (R := Int) (i + 1))))] rfl (by kernel_rfl : runSegA (cfT []) 1000 0 _ _ _ _ (g2R l n3 (i : Int) x 3) = some (stackAt g2C 0, g2S l n3 ((i + 1 : Nat) : Int), _, _)) trivial (by refine ⟨?_, ?_, trivial⟩ <;> (first | exact le_bool c4 | exact ov_succ (by omega))) ?_
                exact hw
            have hin := g2_inner l n2 (by omega) i x 2 (by omega) x.n (by omega) (great2 L) (by rw [hn3]; exact r3)
            have d1 := gt40 _ _ c3
            clear ih
            refine WK.segA ok 1000 0 [(35, RV.d (DV.bool false))] [] [0, 3, 10, 11, 12, 29, 30, 36, 37, 38] [true] [(RV.d (DV.bool (decide (40 < (Nat.cast (R := Int) (List.map vD x.n).length)))), RV.d (DV.bool false))] rfl (by kernel_rfl : runSegA (cfT []) 1000 0 _ _ _ _ (g2R l n2 (i : Int) x 2) = some (stackAt g2C 2, g2V l n2 (i : Int) x 2 (x.n.map vD) 0, _, _)) ⟨(by rfl), trivial⟩ ⟨(by exact le_bool d1), trivial⟩ ?_
            exact hin
          have hin := g2_inner l n1 (by omega) i x 1 (by omega) x.o (by omega) (great2 L) (by rw [hn2]; exact r2)
          have d1 := gt40 _ _ c2
          clear ih
          refine WK.segA ok 1000 0 [(35, RV.d (DV.bool false))] [] [0, 3, 10, 11, 12, 29, 30, 36, 37, 38] [true] [(RV.d (DV.bool (decide (40 < (Nat.cast (R := Int) (List.map vD x.o).length)))), RV.d (DV.bool false))] rfl (by kernel_rfl : runSegA (cfT []) 1000 0 _ _ _ _ (g2R l n1 (i : Int) x 1) = some (stackAt g2C 2, g2V l n1 (i : Int) x 1 (x.o.map vD) 0, _, _)) ⟨(by rfl), trivial⟩ ⟨(by exact le_bool d1), trivial⟩ ?_
          exact hin
        have hin := g2_inner l n0 (by omega) i x 0 (by omega) x.k (by omega) (great2 L) (by rw [hn1]; exact r1)
        have d1 := gt40 _ _ c1
        clear ih
        refine WK.segA ok 1000 0 [(35, RV.d (DV.bool false))] [] [0, 3, 10, 11, 12, 29, 30, 36, 37, 38] [true] [(RV.d (DV.bool (decide (40 < (Nat.cast (R := Int) (List.map vD x.k).length)))), RV.d (DV.bool false))] rfl (by kernel_rfl : runSegA (cfT []) 1000 0 _ _ _ _ (g2R l n0 (i : Int) x 0) = some (stackAt g2C 2, g2V l n0 (i : Int) x 0 (x.k.map vD) 0, _, _)) ⟨(by rfl), trivial⟩ ⟨(by exact le_bool d1), trivial⟩ ?_
        exact hin
      obtain ⟨l, hl'⟩ : ∃ l, L.map chD = l := ⟨_, rfl⟩
      rw [hl'] at hbody b1 b2 b3 ⊢
      clear ih
      refine WK.segA ok 1000 0 [(13, RV.d (DV.bool true)), (14, RV.iptr (DV.agg [DV.str x.1, DV.lst 3 (List.map vD x.2) false, DV.lst 3 (List.map vD x.3) false, DV.lst 3 (List.map vD x.4) false]) 0), (22, RV.d (DV.int Go.IntKind.i64 n0))] [] [0, 3, 10, 11, 12, 29, 30] [decide (0 ≤ (Nat.cast (R := Int) i) ∧ (Nat.cast (R := Int) i) < (Nat.cast (R := Int) l.length))] [(RV.d (DV.bool (decide ((Nat.cast (R := Int) i) < (Nat.cast (R := Int) l.length)))), RV.d (DV.bool true)), (RV.iptr (l.getD (Nat.cast (R := Int) i).toNat DV.nilp) 0, RV.iptr (DV.agg [DV.str x.1, DV.lst 3 (List.map vD x.2) false, DV.lst 3 (List.map vD x.3) false, DV.lst 3 (List.map vD x.4) false]) 0), (RV.d (DV.int Go.IntKind.i64 (Go.IntKind.i64.wrap (n + Go.IntKind.i64.wrap (4 + if 4096 < (Nat.cast (R := Int) (List.length x.t)) then 4096 else (Nat.cast (R := Int) (List.length x.1)))))), RV.d (DV.int Go.IntKind.i64 n0))] rfl (by kernel_rfl : runSegA (cfT []) 1000 0 _ _ _ _ (g2S l n (i : Int)) = some (stackAt g2C 1, g2R l n0 (i : Int) x 0, _, _)) ⟨(by exact b1), trivial⟩ (by refine ⟨?_, ?_, ?_, trivial⟩ <;> (first | exact le_bool b3 | exact b2 | exact b4)) ?_
      exact hbody
    · have hf : decide ((Nat.cast (R := Int) i) < (Nat.cast (R := Int) (L.map chD).length)) = false := decide_eq_false (by rw [List.length_map]; omega)
      have hG : decide ((1200 : Int) < (Nat.cast (R := Int) (L.map chD).length)) = great2 L := by
        rw [← hg, List.drop_eq_nil_of_le (by omega), List.length_map]
        simp only [gr2Go, Bool.false_or]
        apply Bool.eq_iff_iff.2; simp only [decide_eq_true_eq]; omega
      show WK Try.prog 0 _ _ (Ends _ (.d (.bool (great2 L))))
      rw [← hG]
      obtain ⟨l, hl'⟩ : ∃ l, L.map chD = l := ⟨_, rfl⟩
      rw [hl'] at hf ⊢
      clear ih
      exact WK.fin ok 1000 0 [(13, RV.d (DV.bool false))] [] [(RV.d (DV.bool (decide ((Nat.cast (R := Int) i) < (Nat.cast (R := Int) l.length)))), RV.d (DV.bool false))] rfl (by kernel_rfl : runEnd (cfT []) true _ 1000 0 _ _ (g2S l n (i : Int)) = some (RV.d (DV.bool (decide (1200 < (Nat.cast (R := Int) l.length)))), [], _, _)) trivial ⟨(by exact le_bool hf), trivial⟩ ⟨rfl, rfl⟩
  obtain ⟨l, hl'⟩ : ∃ l, L.map chD = l := ⟨_, rfl⟩
  show WK Try.prog 0 _ (ini 57 [.d (.lst 4 (L.map chD) false)] []).den _
  rw [hl'] at hloop ⊢
  refine WK.segA ok 1000 0 [] [] [0, 3, 10, 11, 12] [] [] rfl (by kernel_rfl : runSegA (cfT []) 1000 0 _ _ _ _ (ini 57 [.d (.lst 4 l false)] []) = some (stackAt g2C 0, g2S l 0 0, _, _)) trivial trivial ?_
  exact hloop
def grG2 (x : DV) : Option (DV × List Bool) := some (.bool (great2 (unL x)), [isLw x])
theorem g2_ent : EntOk Try.prog 23 (e1 grG2) := by
  refine e1_ok fun x y c hg hc => ?_
  simp only [grG2, Option.some.injEq, Prod.mk.injEq] at hg
  obtain ⟨rfl, rfl⟩ := hg
  obtain ⟨l, rfl, hl, hw⟩ := isLw_spec (hc (isLw x) (by simp))
  rw [unL_chL]
  exact g2_c l hl
end Go.Proofs.Ytljfolepmkcjlaa
