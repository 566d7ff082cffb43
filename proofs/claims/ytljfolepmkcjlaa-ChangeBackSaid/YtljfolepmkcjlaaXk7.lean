/-
  Texts that the claim leans on, one behind the other, part 7.
-/
import Derived.Test.YtljfolepmkcjlaaXk6

/-
  change.Take, run.
-/
namespace Go.Proofs.Ytljfolepmkcjlaa
open Go.RowKit Plain Am IntWalk
set_option maxRecDepth 100000
set_option linter.unusedVariables false
set_option linter.unusedSimpArgs false

def rowER (R : Rd → List Val × Rd) : Ent := fun a o => match a, o with
  | [.ptr 0 0, .ptr 1 0, .ptr 2 0], [.box F [.clo (.func f) [] [.ptr 1 0, .ptr 2 0]], .box A [.d (.str s)], .box B [.d (.bool ok)]] =>
    some (.d (rD (R ⟨s, ok⟩).1), [.box F [.clo (.func f) [] [.ptr 1 0, .ptr 2 0]], .box A [.d (.str (R ⟨s, ok⟩).2.s)], .box B [.d (.bool (R ⟨s, ok⟩).2.ok)]], [Nat.beq f 43, Nat.beq F 64, Nat.beq A 9, Nat.beq B 4, decide (s.length ≤ 2000000)])
  | _, _ => none
noncomputable def tn3 (R : Rd → List Val × Rd) : List (Nat × Ent) := (45, rowER R) :: (17, e1 ckG) :: tn2
theorem tn3_ok {R : Rd → List Val × Rd} (hR : R = rowI) : EntsOk Try.prog (tn3 R) := by
  subst hR
  exact .cons row_ent2 (.cons ck_ent tn2_ok)
/-- an answer: the changes and the error -/
def tkR : Option (List Chg) → List Chg × Int
  | some l => (l, 0)
  | none => ([], 7)
/-- what the loop's round needs to know of the rows' reading -/
structure RowIs (R : Rd → List Val × Rd) : Prop where
  eq : R = rowI
  len : ∀ p, (R p).2.s.length ≤ p.s.length
  wf : ∀ p, (∀ v ∈ (R p).1, v.wf) ∧ (R p).1.length ≤ 16
  it : ∀ p, itI p = (⟨if (R (R (R (R p).2).2).2).2.ok then (txtI (R p).1).getD [] else [], (R (R p).2).1, (R (R (R p).2).2).1, (R (R (R (R p).2).2).2).1⟩, ⟨(R (R (R (R p).2).2).2).2.s, (R (R (R (R p).2).2).2).2.ok && (txtI (R p).1).isSome⟩)
theorem rowIs : RowIs rowI := ⟨rfl, rowI_len, rowI_wf, fun _ => rfl⟩
theorem nil_leD : RVle (.d (.lst 0 [] true)) (.d (.lst 4 [] false)) := by
  intro κ φ O h v r
  cases r with
  | d hr =>
    cases hr with
    | lst0 hf => exact .d (.lst0 (fun h => by cases h))
    | lst _ _ hf _ _ _ _ => have := (hf rfl).2; omega
theorem bd_appD {out : List DV} {z : DV} (h : out.length ≤ 65536) : decide ((out.length + [z].length) * 88 ≤ 2 ^ 38) = true := decide_eq_true (by simp only [List.length_singleton]; omega)
theorem ovD_K0 {l : List Chg} (h : mayL l = true) : RVle (.d (.int .i64 (if mayL (unL (chL l)) then 0 else 2))) (.d (.int .i64 0)) := .of_eq (by rw [unL_chL, h]; rfl)
theorem ovD_K2 {l : List Chg} (h : mayL l = false) : RVle (.d (.int .i64 (if mayL (unL (chL l)) then 0 else 2))) (.d (.int .i64 2)) := .of_eq (by rw [unL_chL, h]; rfl)
abbrev EndsT (o : Option (List Chg)) : SSt → Prop := Ends (Try.f21.results.toList) (.tup [.d (chL (tkR o).1), .d (.int .i64 (tkR o).2)])
/-- what the end answers -/
def endI (g : List Chg × Rd) : Option (List Chg) := if g.2.ok = true ∧ g.2.s = [] ∧ mayL g.1 = true then some g.1 else none
theorem endI_no {g : List Chg × Rd} (h : g.2.ok = false ∨ g.2.s ≠ [] ∨ mayL g.1 = false) : endI g = none := by
  unfold endI
  rw [if_neg]
  rintro ⟨h1, h2, h3⟩
  rcases h with h | h | h
  · rw [h1] at h; cases h
  · exact h h2
  · rw [h3] at h; cases h
set_option maxHeartbeats 2000000 in
theorem tk_loop {R : Rd → List Val × Rd} (hR : RowIs R) (G : List Chg × Rd) (p0 : Rd) (n0 : Nat) (hn0 : n0 ≤ 4000) (hp0 : p0.s.length ≤ 2000000) (hG : goI n0 [] p0 = G) : WK Try.prog 0 (stackAt tkC 0) (tkS p0.s p0.ok [] (n0 : Int)).den (EndsT (endI G)) := by
  have hok := cfT_ok (tn3_ok hR.eq)
  refine WK.rec' (fun (q : Rd × List Chg × Nat) => tkS q.1.s q.1.ok (q.2.1.map chD) (q.2.2 : Int)) (fun q => q.1.s.length ≤ 2000000 ∧ q.2.1.length + q.2.2 ≤ 4000 ∧ (∀ c ∈ q.2.1, Chg.ok c) ∧ goI q.2.2 q.2.1 q.1 = G) (fun q => q.2.2) ?_ (p0, [], n0) ⟨hp0, by simpa using hn0, by simp, hG⟩
  rintro ⟨⟨s, ok⟩, os, n⟩ ⟨hs, hlen, hos, hg⟩ ih
  simp only at hs hlen hos hg ih ⊢
  have hoL : okL os := ⟨by omega, hos⟩
  cases n with
  | zero =>
    simp only [goI] at hg
    cases ok with
    | false =>
      have hE := endI_no (g := G) (.inl (by rw [← hg]))
      exact WK.fin hok 1000 0 [(16, RV.d (DV.bool false)), (64, RV.d (DV.bool true)), (2, RV.d (DV.lst 4 [] false))] [] [(RV.d (DV.bool false), RV.d (DV.bool false)), (RV.d (DV.bool true), RV.d (DV.bool true)), (RV.d (DV.lst 0 [] true), RV.d (DV.lst 4 [] false))] rfl (by kernel_rfl : runEnd (cfT (tn3 R)) true _ 1000 0 _ _ (tkS s false (os.map chD) 0) = some (RV.tup [RV.d (DV.lst 4 [] false), RV.d (DV.int Go.IntKind.i64 (7))], [], _, _)) trivial (by refine ⟨?_, ?_, ?_, trivial⟩ <;> (first | exact le_bool rfl | exact nil_leD)) ⟨by rw [hE]; rfl, rfl⟩
    | true =>
      by_cases he : s = []
      · cases hm : mayL os with
        | false =>
          have hE := endI_no (g := G) (.inr (.inr (by rw [← hg]; exact hm)))
          exact WK.fin hok 1000 0 [(16, RV.d (DV.bool false)), (58, RV.d (DV.bool false)), (60, RV.d (DV.bool false)), (62, RV.d (DV.int Go.IntKind.i64 (2))), (64, RV.d (DV.bool true)), (2, RV.d (DV.lst 4 [] false))] [isL (DV.lst 4 (os.map chD) false)] [(RV.d (DV.bool false), RV.d (DV.bool false)), (RV.d (DV.bool !s == []), RV.d (DV.bool false)), (RV.d (DV.bool (match !true with | true => true | false => false)), RV.d (DV.bool false)), (RV.d (DV.int Go.IntKind.i64 (if Plain.mayL (unL (DV.lst (4) (os.map chD) false)) = true then 0 else 2)), RV.d (DV.int Go.IntKind.i64 (2))), (RV.d (DV.bool true), RV.d (DV.bool true)), (RV.d (DV.lst 0 [] true), RV.d (DV.lst 4 [] false))] rfl (by kernel_rfl : runEnd (cfT (tn3 R)) true _ 1000 0 _ _ (tkS s true (os.map chD) 0) = some (RV.tup [RV.d (DV.lst 4 [] false), RV.d (DV.int Go.IntKind.i64 (7))], [], _, _)) ⟨(by exact isL_chL hoL), trivial⟩ (by refine ⟨?_, ?_, ?_, ?_, ?_, ?_, trivial⟩ <;> (first | exact le_bool rfl | exact nil_leD | exact ovD_K2 hm | exact le_bool (by rw [he]; rfl))) ⟨by rw [hE]; rfl, rfl⟩
        | true =>
          have hE : endI G = some os := by rw [← hg]; unfold endI; rw [if_pos ⟨rfl, he, hm⟩]
          exact WK.fin hok 1000 0 [(16, RV.d (DV.bool false)), (58, RV.d (DV.bool false)), (60, RV.d (DV.bool false)), (62, RV.d (DV.int Go.IntKind.i64 (0))), (64, RV.d (DV.bool false))] [isL (DV.lst 4 (os.map chD) false)] [(RV.d (DV.bool false), RV.d (DV.bool false)), (RV.d (DV.bool !s == []), RV.d (DV.bool false)), (RV.d (DV.bool (match !true with | true => true | false => false)), RV.d (DV.bool false)), (RV.d (DV.int Go.IntKind.i64 (if Plain.mayL (unL (DV.lst (4) (os.map chD) false)) = true then 0 else 2)), RV.d (DV.int Go.IntKind.i64 (0))), (RV.d (DV.bool false), RV.d (DV.bool false))] rfl (by kernel_rfl : runEnd (cfT (tn3 R)) true _ 1000 0 _ _ (tkS s true (os.map chD) 0) = some (RV.tup [RV.d (DV.lst 4 (os.map chD) false), RV.d (DV.int Go.IntKind.i64 (0))], [], _, _)) ⟨(by exact isL_chL hoL), trivial⟩ (by refine ⟨?_, ?_, ?_, ?_, ?_, trivial⟩ <;> (first | exact le_bool rfl | exact ovD_K0 hm | exact le_bool (by rw [he]; rfl))) ⟨by rw [hE]; rfl, rfl⟩
      · have hE := endI_no (g := G) (.inr (.inl (by rw [← hg]; exact he)))
        exact WK.fin hok 1000 0 [(16, RV.d (DV.bool false)), (58, RV.d (DV.bool true)), (60, RV.d (DV.bool true)), (64, RV.d (DV.bool true)), (2, RV.d (DV.lst 4 [] false))] [] [(RV.d (DV.bool false), RV.d (DV.bool false)), (RV.d (DV.bool !s == []), RV.d (DV.bool true)), (RV.d (DV.bool (match !true with | true => true | false => true)), RV.d (DV.bool true)), (RV.d (DV.bool true), RV.d (DV.bool true)), (RV.d (DV.lst 0 [] true), RV.d (DV.lst 4 [] false))] rfl (by kernel_rfl : runEnd (cfT (tn3 R)) true _ 1000 0 _ _ (tkS s true (os.map chD) 0) = some (RV.tup [RV.d (DV.lst 4 [] false), RV.d (DV.int Go.IntKind.i64 (7))], [], _, _)) trivial (by refine ⟨?_, ?_, ?_, ?_, ?_, trivial⟩ <;> (first | exact le_bool rfl | exact nil_leD | exact le_bool (by simpa using he))) ⟨by rw [hE]; rfl, rfl⟩
  | succ m =>
    cases ok with
    | false =>
      have hE := endI_no (g := G) (.inl (by rw [← hg]; simp [goI]))
      exact WK.fin hok 1000 0 [(16, RV.d (DV.bool true)), (64, RV.d (DV.bool true)), (2, RV.d (DV.lst 4 [] false))] [] [(RV.d (DV.bool (decide (0 < (Nat.cast (R := Int) (m + 1))))), RV.d (DV.bool true)), (RV.d (DV.bool true), RV.d (DV.bool true)), (RV.d (DV.lst 0 [] true), RV.d (DV.lst 4 [] false))] rfl (by kernel_rfl : runEnd (cfT (tn3 R)) true _ 1000 0 _ _ (tkS s false (os.map chD) ((m + 1 : Nat) : Int)) = some (RV.tup [RV.d (DV.lst 4 [] false), RV.d (DV.int Go.IntKind.i64 (7))], [], _, _)) trivial (by refine ⟨?_, ?_, ?_, trivial⟩ <;> (first | exact le_bool (decide_eq_true (by omega)) | exact le_bool rfl | exact nil_leD)) ⟨by rw [hE]; rfl, rfl⟩
    | true =>
      simp only [goI, if_true] at hg
      obtain ⟨a, hra⟩ : ∃ a, R ⟨s, true⟩ = a := ⟨_, rfl⟩
      obtain ⟨b, hrb⟩ : ∃ b, R a.2 = b := ⟨_, rfl⟩
      obtain ⟨c, hrc⟩ : ∃ c, R b.2 = c := ⟨_, rfl⟩
      obtain ⟨d, hrd⟩ : ∃ d, R c.2 = d := ⟨_, rfl⟩
      have hit := hR.it ⟨s, true⟩
      have l1 := hR.len ⟨s, true⟩
      have l2 := hR.len a.2
      have l3 := hR.len b.2
      have l4 := hR.len c.2
      have f2 := hR.wf a.2
      have f3 := hR.wf b.2
      have f4 := hR.wf c.2
      rw [hra] at hit l1
      rw [hrb] at hit l2 f2
      rw [hrc] at hit l3 f3
      rw [hrd] at hit l4 f4
      simp only at l1
      have r1 : a.2.s.length ≤ 2000000 := by omega
      have r2 : b.2.s.length ≤ 2000000 := by omega
      have r3 : c.2.s.length ≤ 2000000 := by omega
      rw [hit] at hg
      have hnext := ih (⟨d.2.s, d.2.ok && (txtI a.1).isSome⟩, os ++ [⟨if d.2.ok then (txtI a.1).getD [] else [], b.1, c.1, d.1⟩], m) ⟨by simp only; omega, by simp only [List.length_append, List.length_singleton]; omega, fun x hx => by
        rcases List.mem_append.1 hx with hx | hx
        · exact hos x hx
        · simp only [List.mem_singleton] at hx; rw [hx]; exact ⟨⟨f2.1, f3.1, f4.1⟩, by simp only; omega, by simp only; omega, by simp only; omega⟩, hg⟩ (by simp only; omega)
      simp only [List.map_append, List.map_cons, List.map_nil] at hnext
      obtain ⟨out, hout⟩ : ∃ o, os.map chD = o := ⟨_, rfl⟩
      have houl : out.length ≤ 65536 := by rw [← hout, List.length_map]; omega
      rw [hout] at hnext ⊢
      cases hd : d.2.ok with
      | false =>
        rw [hd] at hnext
        refine WK.segA hok 1000 0 [(16, RV.d (DV.bool true)), (21, RV.d (DV.int Go.IntKind.i64 (Nat.cast (R := Int) m))), (31, RV.d (DV.bool false)), (43, RV.d (DV.bool false))] [] [1, 4, 6, 7, 8] [true, true, true, true, decide (List.length s ≤ 2000000), true, true, true, true, decide (List.length (R { s := s, ok := true }).snd.s ≤ 2000000), true, true, true, true, decide (List.length (R { s := (R { s := s, ok := true }).snd.s, ok := (R { s := s, ok := true }).snd.ok }).snd.s ≤ 2000000), true, true, true, true, decide (List.length (R { s := (R { s := (R { s := s, ok := true }).snd.s, ok := (R { s := s, ok := true }).snd.ok }).snd.s, ok := (R { s := (R { s := s, ok := true }).snd.s, ok := (R { s := s, ok := true }).snd.ok }).snd.ok }).snd.s ≤ 2000000), decide ((out.length + [DV.agg [DV.str ([] : List UInt8), rD (R { s := (R { s := s, ok := true }).snd.s, ok := (R { s := s, ok := true }).snd.ok }).fst, rD (R { s := (R { s := (R { s := s, ok := true }).snd.s, ok := (R { s := s, ok := true }).snd.ok }).snd.s, ok := (R { s := (R { s := s, ok := true }).snd.s, ok := (R { s := s, ok := true }).snd.ok }).snd.ok }).fst, rD (R { s := (R { s := (R { s := (R { s := s, ok := true }).snd.s, ok := (R { s := s, ok := true }).snd.ok }).snd.s, ok := (R { s := (R { s := s, ok := true }).snd.s, ok := (R { s := s, ok := true }).snd.ok }).snd.ok }).snd.s, ok := (R { s := (R { s := (R { s := s, ok := true }).snd.s, ok := (R { s := s, ok := true }).snd.ok }).snd.s, ok := (R { s := (R { s := s, ok := true }).snd.s, ok := (R { s := s, ok := true }).snd.ok }).snd.ok }).snd.ok }).fst]].length) * 88 ≤ 2 ^ 38)] [(RV.d (DV.bool (decide (0 < (Nat.cast (R := Int) (m + 1))))), RV.d (DV.bool true)), (RV.d (DV.bool (R { s := (R { s := (R { s := (R { s := s, ok := true }).snd.s, ok := (R { s := s, ok := true }).snd.ok }).snd.s, ok := (R { s := (R { s := s, ok := true }).snd.s, ok := (R { s := s, ok := true }).snd.ok }).snd.ok }).snd.s, ok := (R { s := (R { s := (R { s := s, ok := true }).snd.s, ok := (R { s := s, ok := true }).snd.ok }).snd.s, ok := (R { s := (R { s := s, ok := true }).snd.s, ok := (R { s := s, ok := true }).snd.ok }).snd.ok }).snd.ok }).snd.2), RV.d (DV.bool false)), (RV.d (DV.bool false), RV.d (DV.bool false)), (RV.d (DV.int Go.IntKind.i64 (Go.IntKind.i64.wrap ((Nat.cast (R := Int) (m + 1)) - 1))), RV.d (DV.int Go.IntKind.i64 (Nat.cast (R := Int) m)))] rfl (by kernel_rfl : runSegA (cfT (tn3 R)) 1000 0 _ _ _ _ (tkS s true out ((m + 1 : Nat) : Int)) = some (stackAt tkC 0, tkS (R (R (R (R ⟨s, true⟩).2).2).2).2.s false (out ++ [chD ⟨[], (R (R ⟨s, true⟩).2).1, (R (R (R ⟨s, true⟩).2).2).1, (R (R (R (R ⟨s, true⟩).2).2).2).1⟩]) (m : Int), _, _)) (by refine ⟨?_, ?_, ?_, ?_, ?_, ?_, ?_, ?_, ?_, ?_, ?_, ?_, ?_, ?_, ?_, ?_, ?_, ?_, ?_, ?_, ?_, trivial⟩ <;> (first | rfl | exact decide_eq_true hs | (with_reducible exact bd_appD houl) | (refine decide_eq_true ?_; show (R ⟨s, true⟩).2.s.length ≤ 2000000; rw [hra]; exact r1) | (refine decide_eq_true ?_; show (R (R ⟨s, true⟩).2).2.s.length ≤ 2000000; rw [hra, hrb]; exact r2) | (refine decide_eq_true ?_; show (R (R (R ⟨s, true⟩).2).2).2.s.length ≤ 2000000; rw [hra, hrb, hrc]; exact r3) | exact bd_appD houl | (rw [hra, ha]; rfl))) (by refine ⟨?_, ?_, ?_, ?_, trivial⟩ <;> (first | exact le_bool (decide_eq_true (by omega)) | exact le_bool rfl | (refine le_bool ?_; show (R (R (R (R ⟨s, true⟩).2).2).2).2.ok = _; rw [hra, hrb, hrc, hrd]; exact hd) | (refine .of_eq (congrArg (fun z : Int => RV.d (.int .i64 z)) ?_); rw [i64_in _ (by omega)]; omega))) ?_
        rw [hra, hrb, hrc, hrd]
        exact hnext
      | true =>
        by_cases h1 : a.1.length = 1
        · obtain ⟨v, ha⟩ : ∃ v, a.1 = [v] := List.length_eq_one_iff.1 h1
          by_cases hk : v.k = 2
          · have ht : txtI a.1 = some v.s := by rw [ha]; simp [txtI, hk]
            rw [hd, ht] at hnext
            refine WK.segA hok 1000 0 [(16, RV.d (DV.bool true)), (21, RV.d (DV.int Go.IntKind.i64 (Nat.cast (R := Int) m))), (31, RV.d (DV.bool true)), (35, RV.d (DV.bool true)), (39, RV.iptr (DV.agg [DV.int Go.IntKind.u8 v.1, DV.int Go.IntKind.i64 v.2, DV.str v.3]) 0), (42, RV.d (DV.bool true)), (43, RV.d (DV.bool true)), (46, RV.iptr (DV.agg [DV.int Go.IntKind.u8 v.1, DV.int Go.IntKind.i64 v.2, DV.str v.3]) 0)] [] [1, 4, 6, 7, 8] [true, true, true, true, decide (List.length s ≤ 2000000), true, true, true, true, decide (List.length (R { s := s, ok := true }).snd.s ≤ 2000000), true, true, true, true, decide (List.length (R { s := (R { s := s, ok := true }).snd.s, ok := (R { s := s, ok := true }).snd.ok }).snd.s ≤ 2000000), true, true, true, true, decide (List.length (R { s := (R { s := (R { s := s, ok := true }).snd.s, ok := (R { s := s, ok := true }).snd.ok }).snd.s, ok := (R { s := (R { s := s, ok := true }).snd.s, ok := (R { s := s, ok := true }).snd.ok }).snd.ok }).snd.s ≤ 2000000), decide ((0 : Int) ≤ 0 ∧ 0 < (Nat.cast (R := Int) (List.map vD (R { s := s, ok := true }).fst).length)), decide ((0 : Int) ≤ 0 ∧ 0 < (Nat.cast (R := Int) (List.map vD (R { s := s, ok := true }).fst).length)), decide ((out.length + [DV.agg [(vD v).cells.getD 2 DV.nilp, rD (R { s := (R { s := s, ok := true }).snd.s, ok := (R { s := s, ok := true }).snd.ok }).fst, rD (R { s := (R { s := (R { s := s, ok := true }).snd.s, ok := (R { s := s, ok := true }).snd.ok }).snd.s, ok := (R { s := (R { s := s, ok := true }).snd.s, ok := (R { s := s, ok := true }).snd.ok }).snd.ok }).fst, rD (R { s := (R { s := (R { s := (R { s := s, ok := true }).snd.s, ok := (R { s := s, ok := true }).snd.ok }).snd.s, ok := (R { s := (R { s := s, ok := true }).snd.s, ok := (R { s := s, ok := true }).snd.ok }).snd.ok }).snd.s, ok := (R { s := (R { s := (R { s := s, ok := true }).snd.s, ok := (R { s := s, ok := true }).snd.ok }).snd.s, ok := (R { s := (R { s := s, ok := true }).snd.s, ok := (R { s := s, ok := true }).snd.ok }).snd.ok }).snd.ok }).fst]].length) * 88 ≤ 2 ^ 38)] [(RV.d (DV.bool (decide (0 < (Nat.cast (R := Int) (m + 1))))), RV.d (DV.bool true)), (RV.d (DV.bool (R { s := (R { s := (R { s := (R { s := s, ok := true }).snd.s, ok := (R { s := s, ok := true }).snd.ok }).snd.s, ok := (R { s := (R { s := s, ok := true }).snd.s, ok := (R { s := s, ok := true }).snd.ok }).snd.ok }).snd.s, ok := (R { s := (R { s := (R { s := s, ok := true }).snd.s, ok := (R { s := s, ok := true }).snd.ok }).snd.s, ok := (R { s := (R { s := s, ok := true }).snd.s, ok := (R { s := s, ok := true }).snd.ok }).snd.ok }).snd.ok }).snd.2), RV.d (DV.bool true)), (RV.d (DV.bool ((Nat.cast (R := Int) (List.map vD (R { s := s, ok := true }).1).length) == 1)), RV.d (DV.bool true)), (RV.iptr ((List.map vD (R { s := s, ok := true }).fst).getD (Int.toNat (0)) DV.nilp) 0, RV.iptr (DV.agg [DV.int Go.IntKind.u8 v.1, DV.int Go.IntKind.i64 v.2, DV.str v.3]) 0), (RV.d (DV.bool (v.1 == 2)), RV.d (DV.bool true)), (RV.d (DV.bool true), RV.d (DV.bool true)), (RV.iptr ((List.map vD (R { s := s, ok := true }).fst).getD (Int.toNat (0)) DV.nilp) 0, RV.iptr (DV.agg [DV.int Go.IntKind.u8 v.1, DV.int Go.IntKind.i64 v.2, DV.str v.3]) 0), (RV.d (DV.int Go.IntKind.i64 (Go.IntKind.i64.wrap ((Nat.cast (R := Int) (m + 1)) - 1))), RV.d (DV.int Go.IntKind.i64 (Nat.cast (R := Int) m)))] rfl (by kernel_rfl : runSegA (cfT (tn3 R)) 1000 0 _ _ _ _ (tkS s true out ((m + 1 : Nat) : Int)) = some (stackAt tkC 0, tkS (R (R (R (R ⟨s, true⟩).2).2).2).2.s true (out ++ [chD ⟨v.s, (R (R ⟨s, true⟩).2).1, (R (R (R ⟨s, true⟩).2).2).1, (R (R (R (R ⟨s, true⟩).2).2).2).1⟩]) (m : Int), _, _)) (by refine ⟨?_, ?_, ?_, ?_, ?_, ?_, ?_, ?_, ?_, ?_, ?_, ?_, ?_, ?_, ?_, ?_, ?_, ?_, ?_, ?_, ?_, ?_, ?_, trivial⟩ <;> (first | rfl | exact decide_eq_true hs | (with_reducible exact bd_appD houl) | (refine decide_eq_true ?_; show (R ⟨s, true⟩).2.s.length ≤ 2000000; rw [hra]; exact r1) | (refine decide_eq_true ?_; show (R (R ⟨s, true⟩).2).2.s.length ≤ 2000000; rw [hra, hrb]; exact r2) | (refine decide_eq_true ?_; show (R (R (R ⟨s, true⟩).2).2).2.s.length ≤ 2000000; rw [hra, hrb, hrc]; exact r3) | exact bd_appD houl | (rw [hra, ha]; rfl))) (by refine ⟨?_, ?_, ?_, ?_, ?_, ?_, ?_, ?_, trivial⟩ <;> (first | exact le_bool (decide_eq_true (by omega)) | exact le_bool rfl | (refine le_bool ?_; show (R (R (R (R ⟨s, true⟩).2).2).2).2.ok = _; rw [hra, hrb, hrc, hrd]; exact hd) | (refine le_bool ?_; rw [hra, ha]; rfl) | (refine .of_eq ?_; rw [hra, ha]; rfl) | exact le_bool (by rw [hk]; rfl) | (refine .of_eq (congrArg (fun z : Int => RV.d (.int .i64 z)) ?_); rw [i64_in _ (by omega)]; omega))) ?_
            rw [hra, hrb, hrc, hrd]
            exact hnext
          · have ht : txtI a.1 = none := by rw [ha]; simp [txtI, hk]
            rw [hd, ht] at hnext
            refine WK.segA hok 1000 0 [(16, RV.d (DV.bool true)), (21, RV.d (DV.int Go.IntKind.i64 (Nat.cast (R := Int) m))), (31, RV.d (DV.bool true)), (35, RV.d (DV.bool true)), (39, RV.iptr (DV.agg [DV.int Go.IntKind.u8 v.1, DV.int Go.IntKind.i64 v.2, DV.str v.3]) 0), (42, RV.d (DV.bool false)), (43, RV.d (DV.bool false))] [] [1, 4, 6, 7, 8] [true, true, true, true, decide (List.length s ≤ 2000000), true, true, true, true, decide (List.length (R { s := s, ok := true }).snd.s ≤ 2000000), true, true, true, true, decide (List.length (R { s := (R { s := s, ok := true }).snd.s, ok := (R { s := s, ok := true }).snd.ok }).snd.s ≤ 2000000), true, true, true, true, decide (List.length (R { s := (R { s := (R { s := s, ok := true }).snd.s, ok := (R { s := s, ok := true }).snd.ok }).snd.s, ok := (R { s := (R { s := s, ok := true }).snd.s, ok := (R { s := s, ok := true }).snd.ok }).snd.ok }).snd.s ≤ 2000000), decide ((0 : Int) ≤ 0 ∧ 0 < (Nat.cast (R := Int) (List.map vD (R { s := s, ok := true }).fst).length)), decide ((out.length + [DV.agg [DV.str ([] : List UInt8), rD (R { s := (R { s := s, ok := true }).snd.s, ok := (R { s := s, ok := true }).snd.ok }).fst, rD (R { s := (R { s := (R { s := s, ok := true }).snd.s, ok := (R { s := s, ok := true }).snd.ok }).snd.s, ok := (R { s := (R { s := s, ok := true }).snd.s, ok := (R { s := s, ok := true }).snd.ok }).snd.ok }).fst, rD (R { s := (R { s := (R { s := (R { s := s, ok := true }).snd.s, ok := (R { s := s, ok := true }).snd.ok }).snd.s, ok := (R { s := (R { s := s, ok := true }).snd.s, ok := (R { s := s, ok := true }).snd.ok }).snd.ok }).snd.s, ok := (R { s := (R { s := (R { s := s, ok := true }).snd.s, ok := (R { s := s, ok := true }).snd.ok }).snd.s, ok := (R { s := (R { s := s, ok := true }).snd.s, ok := (R { s := s, ok := true }).snd.ok }).snd.ok }).snd.ok }).fst]].length) * 88 ≤ 2 ^ 38)] [(RV.d (DV.bool (decide (0 < (Nat.cast (R := Int) (m + 1))))), RV.d (DV.bool true)), (RV.d (DV.bool (R { s := (R { s := (R { s := (R { s := s, ok := true }).snd.s, ok := (R { s := s, ok := true }).snd.ok }).snd.s, ok := (R { s := (R { s := s, ok := true }).snd.s, ok := (R { s := s, ok := true }).snd.ok }).snd.ok }).snd.s, ok := (R { s := (R { s := (R { s := s, ok := true }).snd.s, ok := (R { s := s, ok := true }).snd.ok }).snd.s, ok := (R { s := (R { s := s, ok := true }).snd.s, ok := (R { s := s, ok := true }).snd.ok }).snd.ok }).snd.ok }).snd.2), RV.d (DV.bool true)), (RV.d (DV.bool ((Nat.cast (R := Int) (List.map vD (R { s := s, ok := true }).1).length) == 1)), RV.d (DV.bool true)), (RV.iptr ((List.map vD (R { s := s, ok := true }).fst).getD (Int.toNat (0)) DV.nilp) 0, RV.iptr (DV.agg [DV.int Go.IntKind.u8 v.1, DV.int Go.IntKind.i64 v.2, DV.str v.3]) 0), (RV.d (DV.bool (v.1 == 2)), RV.d (DV.bool false)), (RV.d (DV.bool false), RV.d (DV.bool false)), (RV.d (DV.int Go.IntKind.i64 (Go.IntKind.i64.wrap ((Nat.cast (R := Int) (m + 1)) - 1))), RV.d (DV.int Go.IntKind.i64 (Nat.cast (R := Int) m)))] rfl (by kernel_rfl : runSegA (cfT (tn3 R)) 1000 0 _ _ _ _ (tkS s true out ((m + 1 : Nat) : Int)) = some (stackAt tkC 0, tkS (R (R (R (R ⟨s, true⟩).2).2).2).2.s false (out ++ [chD ⟨[], (R (R ⟨s, true⟩).2).1, (R (R (R ⟨s, true⟩).2).2).1, (R (R (R (R ⟨s, true⟩).2).2).2).1⟩]) (m : Int), _, _)) (by refine ⟨?_, ?_, ?_, ?_, ?_, ?_, ?_, ?_, ?_, ?_, ?_, ?_, ?_, ?_, ?_, ?_, ?_, ?_, ?_, ?_, ?_, ?_, trivial⟩ <;> (first | rfl | exact decide_eq_true hs | (with_reducible exact bd_appD houl) | (refine decide_eq_true ?_; show (R ⟨s, true⟩).2.s.length ≤ 2000000; rw [hra]; exact r1) | (refine decide_eq_true ?_; show (R (R ⟨s, true⟩).2).2.s.length ≤ 2000000; rw [hra, hrb]; exact r2) | (refine decide_eq_true ?_; show (R (R (R ⟨s, true⟩).2).2).2.s.length ≤ 2000000; rw [hra, hrb, hrc]; exact r3) | exact bd_appD houl | (rw [hra, ha]; rfl))) (by refine ⟨?_, ?_, ?_, ?_, ?_, ?_, ?_, trivial⟩ <;> (first | exact le_bool (decide_eq_true (by omega)) | exact le_bool rfl | (refine le_bool ?_; show (R (R (R (R ⟨s, true⟩).2).2).2).2.ok = _; rw [hra, hrb, hrc, hrd]; exact hd) | (refine le_bool ?_; rw [hra, ha]; rfl) | (refine .of_eq ?_; rw [hra, ha]; rfl) | exact le_bool (beq_eq_false_iff_ne.2 hk) | (refine .of_eq (congrArg (fun z : Int => RV.d (.int .i64 z)) ?_); rw [i64_in _ (by omega)]; omega))) ?_
            rw [hra, hrb, hrc, hrd]
            exact hnext
        · have ht : txtI a.1 = none := by
            match hq : a.1, h1 with
            | [], _ => rfl
            | [v], h1 => simp at h1
            | _ :: _ :: _, _ => rfl
          rw [hd, ht] at hnext
          refine WK.segA hok 1000 0 [(16, RV.d (DV.bool true)), (21, RV.d (DV.int Go.IntKind.i64 (Nat.cast (R := Int) m))), (31, RV.d (DV.bool true)), (35, RV.d (DV.bool false)), (43, RV.d (DV.bool false))] [] [1, 4, 6, 7, 8] [true, true, true, true, decide (List.length s ≤ 2000000), true, true, true, true, decide (List.length (R { s := s, ok := true }).snd.s ≤ 2000000), true, true, true, true, decide (List.length (R { s := (R { s := s, ok := true }).snd.s, ok := (R { s := s, ok := true }).snd.ok }).snd.s ≤ 2000000), true, true, true, true, decide (List.length (R { s := (R { s := (R { s := s, ok := true }).snd.s, ok := (R { s := s, ok := true }).snd.ok }).snd.s, ok := (R { s := (R { s := s, ok := true }).snd.s, ok := (R { s := s, ok := true }).snd.ok }).snd.ok }).snd.s ≤ 2000000), decide ((out.length + [DV.agg [DV.str ([] : List UInt8), rD (R { s := (R { s := s, ok := true }).snd.s, ok := (R { s := s, ok := true }).snd.ok }).fst, rD (R { s := (R { s := (R { s := s, ok := true }).snd.s, ok := (R { s := s, ok := true }).snd.ok }).snd.s, ok := (R { s := (R { s := s, ok := true }).snd.s, ok := (R { s := s, ok := true }).snd.ok }).snd.ok }).fst, rD (R { s := (R { s := (R { s := (R { s := s, ok := true }).snd.s, ok := (R { s := s, ok := true }).snd.ok }).snd.s, ok := (R { s := (R { s := s, ok := true }).snd.s, ok := (R { s := s, ok := true }).snd.ok }).snd.ok }).snd.s, ok := (R { s := (R { s := (R { s := s, ok := true }).snd.s, ok := (R { s := s, ok := true }).snd.ok }).snd.s, ok := (R { s := (R { s := s, ok := true }).snd.s, ok := (R { s := s, ok := true }).snd.ok }).snd.ok }).snd.ok }).fst]].length) * 88 ≤ 2 ^ 38)] [(RV.d (DV.bool (decide (0 < (Nat.cast (R := Int) (m + 1))))), RV.d (DV.bool true)), (RV.d (DV.bool (R { s := (R { s := (R { s := (R { s := s, ok := true }).snd.s, ok := (R { s := s, ok := true }).snd.ok }).snd.s, ok := (R { s := (R { s := s, ok := true }).snd.s, ok := (R { s := s, ok := true }).snd.ok }).snd.ok }).snd.s, ok := (R { s := (R { s := (R { s := s, ok := true }).snd.s, ok := (R { s := s, ok := true }).snd.ok }).snd.s, ok := (R { s := (R { s := s, ok := true }).snd.s, ok := (R { s := s, ok := true }).snd.ok }).snd.ok }).snd.ok }).snd.2), RV.d (DV.bool true)), (RV.d (DV.bool ((Nat.cast (R := Int) (List.map vD (R { s := s, ok := true }).1).length) == 1)), RV.d (DV.bool false)), (RV.d (DV.bool false), RV.d (DV.bool false)), (RV.d (DV.int Go.IntKind.i64 (Go.IntKind.i64.wrap ((Nat.cast (R := Int) (m + 1)) - 1))), RV.d (DV.int Go.IntKind.i64 (Nat.cast (R := Int) m)))] rfl (by kernel_rfl : runSegA (cfT (tn3 R)) 1000 0 _ _ _ _ (tkS s true out ((m + 1 : Nat) : Int)) = some (stackAt tkC 0, tkS (R (R (R (R ⟨s, true⟩).2).2).2).2.s false (out ++ [chD ⟨[], (R (R ⟨s, true⟩).2).1, (R (R (R ⟨s, true⟩).2).2).1, (R (R (R (R ⟨s, true⟩).2).2).2).1⟩]) (m : Int), _, _)) (by refine ⟨?_, ?_, ?_, ?_, ?_, ?_, ?_, ?_, ?_, ?_, ?_, ?_, ?_, ?_, ?_, ?_, ?_, ?_, ?_, ?_, ?_, trivial⟩ <;> (first | rfl | exact decide_eq_true hs | (with_reducible exact bd_appD houl) | (refine decide_eq_true ?_; show (R ⟨s, true⟩).2.s.length ≤ 2000000; rw [hra]; exact r1) | (refine decide_eq_true ?_; show (R (R ⟨s, true⟩).2).2.s.length ≤ 2000000; rw [hra, hrb]; exact r2) | (refine decide_eq_true ?_; show (R (R (R ⟨s, true⟩).2).2).2.s.length ≤ 2000000; rw [hra, hrb, hrc]; exact r3) | exact bd_appD houl | (rw [hra, ha]; rfl))) (by refine ⟨?_, ?_, ?_, ?_, ?_, trivial⟩ <;> (first | exact le_bool (decide_eq_true (by omega)) | exact le_bool rfl | (refine le_bool ?_; show (R (R (R (R ⟨s, true⟩).2).2).2).2.ok = _; rw [hra, hrb, hrc, hrd]; exact hd) | (refine le_bool (beq_eq_false_iff_ne.2 ?_); rw [hra, List.length_map]; omega) | (refine .of_eq (congrArg (fun z : Int => RV.d (.int .i64 z)) ?_); rw [i64_in _ (by omega)]; omega))) ?_
          rw [hra, hrb, hrc, hrd]
          exact hnext
theorem take_c (s : Bs) (hs : s.length ≤ 2000000) : C Try.prog 21 [.d (.str s)] [] (fun r o => r = .tup [.d (chL (tkR (takeC s)).1), .d (.int .i64 (tkR (takeC s)).2)] ∧ o = []) := by
  have hok := cfT_ok (tn3_ok (R := rowI) rfl)
  refine C_of_run (fn := Try.f21) (body := tkC) true (by kernel_rfl) (by kernel_rfl) (by kernel_rfl) ?_
  rw [← takeI_eq]
  have hc := cntI_len ⟨s, true⟩
  simp only at hc
  have hloop := tk_loop rowIs _ (cntI ⟨s, true⟩).2 (cntI ⟨s, true⟩).1 (by simp only [cntI]; split <;> omega) (by omega) rfl
  refine WK.segA hok 1000 0 [] [(7, 250, 46, 4)] [1, 4, 6, 7, 8] [true, true, decide (List.length s ≤ 2000000)] [] rfl (by kernel_rfl : runSegA (cfT (tn3 rowI)) 1000 0 _ _ _ _ (ini 66 [.d (.str s)] []) = some (stackAt tkC 0, tkS (cntI ⟨s, true⟩).2.s (cntI ⟨s, true⟩).2.ok [] (((cntI ⟨s, true⟩).1 : Nat) : Int), _, _)) (by refine ⟨?_, ?_, ?_, trivial⟩ <;> (first | rfl | exact decide_eq_true hs)) trivial ?_
  exact hloop
end Go.Proofs.Ytljfolepmkcjlaa

/-
  Plain facts about sorting by a comparison: insertion, merging of two sorted lists, one sorted list of each. No program in sight.
-/
namespace Go.Proofs.Ytljfolepmkcjlaa.Srt
variable {α : Type}

/-- a comparison that orders: what it says one way it says the other way round, and it can be put together -/
structure Pre (c : α → α → Int) : Prop where
  anti : ∀ a b, c b a = - c a b
  trans : ∀ a b d, c a b ≤ 0 → c b d ≤ 0 → c a d ≤ 0

def srtB (c : α → α → Int) : List α → Bool
  | [] => true
  | x :: r => r.all (fun y => decide (c x y ≤ 0)) && srtB c r

/-- x put into a row from its end: in front of all at the end that it stands ahead of -/
def insE (c : α → α → Int) (acc : List α) (x : α) : List α :=
  (acc.reverse.dropWhile fun y => decide (c x y < 0)).reverse ++ x :: (acc.reverse.takeWhile fun y => decide (c x y < 0)).reverse
def isort (c : α → α → Int) (l : List α) : List α := l.foldl (insE c) []

def mrg (c : α → α → Int) : List α → List α → List α
  | [], Y => Y
  | x :: X, [] => x :: X
  | x :: X, y :: Y => if c y x < 0 then y :: mrg c (x :: X) Y else x :: mrg c X (y :: Y)
termination_by X Y => X.length + Y.length

variable {c : α → α → Int}

theorem srtB_cons {x : α} {r : List α} : srtB c (x :: r) = true ↔ (∀ y ∈ r, c x y ≤ 0) ∧ srtB c r = true := by
  simp [srtB, List.all_eq_true]
theorem srtB_append : ∀ {a b : List α}, srtB c (a ++ b) = true ↔ srtB c a = true ∧ srtB c b = true ∧ ∀ x ∈ a, ∀ y ∈ b, c x y ≤ 0
  | [], b => by simp [srtB]
  | x :: r, b => by
    rw [List.cons_append, srtB_cons, srtB_cons, srtB_append (a := r)]
    constructor
    · rintro ⟨h1, h2, h3, h4⟩
      refine ⟨⟨fun y hy => h1 y (by simp [hy]), h2⟩, h3, fun z hz y hy => ?_⟩
      rcases List.mem_cons.1 hz with rfl | hz
      · exact h1 y (by simp [hy])
      · exact h4 z hz y hy
    · rintro ⟨⟨h1, h2⟩, h3, h4⟩
      refine ⟨fun y hy => ?_, h2, h3, fun z hz y hy => h4 z (by simp [hz]) y hy⟩
      rcases List.mem_append.1 hy with hy | hy
      · exact h1 y hy
      · exact h4 x (by simp) y hy

theorem mrg_nil_r (c : α → α → Int) : ∀ (X : List α), mrg c X [] = X
  | [] => by rw [mrg]
  | x :: X => by rw [mrg]
theorem mrg_nil_l (c : α → α → Int) (Y : List α) : mrg c [] Y = Y := by rw [mrg]
theorem mrg_lt {x y : α} {X Y : List α} (h : c y x < 0) : mrg c (x :: X) (y :: Y) = y :: mrg c (x :: X) Y := by rw [mrg, if_pos h]
theorem mrg_ge {x y : α} {X Y : List α} (h : ¬ c y x < 0) : mrg c (x :: X) (y :: Y) = x :: mrg c X (y :: Y) := by rw [mrg, if_neg h]

theorem mrg_perm (c : α → α → Int) : ∀ (n : Nat) (X Y : List α), X.length + Y.length ≤ n → (mrg c X Y).Perm (X ++ Y)
  | 0, X, Y, h => by
    have h1 : X = [] := List.eq_nil_of_length_eq_zero (by omega)
    have h2 : Y = [] := List.eq_nil_of_length_eq_zero (by omega)
    subst h1 h2; rw [mrg_nil_l]; exact .refl _
  | n + 1, [], Y, _ => by rw [mrg_nil_l]; exact .refl _
  | n + 1, x :: X, [], _ => by rw [mrg_nil_r, List.append_nil]
  | n + 1, x :: X, y :: Y, h => by
    simp only [List.length_cons] at h
    by_cases hc : c y x < 0
    · rw [mrg_lt hc]
      have ih := mrg_perm c n (x :: X) Y (by simp only [List.length_cons]; omega)
      exact (ih.cons y).trans (List.perm_middle.symm)
    · rw [mrg_ge hc]
      have ih := mrg_perm c n X (y :: Y) (by simp only [List.length_cons]; omega)
      exact ih.cons x
theorem mrg_mem {X Y : List α} {z : α} : z ∈ mrg c X Y ↔ z ∈ X ∨ z ∈ Y := by
  rw [(mrg_perm c _ X Y (Nat.le_refl _)).mem_iff, List.mem_append]
theorem mrg_sorted (P : Pre c) : ∀ (n : Nat) (X Y : List α), X.length + Y.length ≤ n → srtB c X = true → srtB c Y = true → srtB c (mrg c X Y) = true
  | 0, X, Y, h, hX, hY => by
    have h1 : X = [] := List.eq_nil_of_length_eq_zero (by omega)
    subst h1; rw [mrg_nil_l]; exact hY
  | n + 1, [], Y, _, _, hY => by rw [mrg_nil_l]; exact hY
  | n + 1, x :: X, [], _, hX, _ => by rw [mrg_nil_r]; exact hX
  | n + 1, x :: X, y :: Y, h, hX, hY => by
    simp only [List.length_cons] at h
    have hx := srtB_cons.1 hX
    have hy := srtB_cons.1 hY
    by_cases hc : c y x < 0
    · rw [mrg_lt hc]
      refine srtB_cons.2 ⟨fun z hz => ?_, mrg_sorted P n (x :: X) Y (by simp only [List.length_cons]; omega) hX hy.2⟩
      rcases mrg_mem.1 hz with hz | hz
      · rcases List.mem_cons.1 hz with rfl | hz
        · omega
        · exact P.trans _ _ _ (by omega) (hx.1 z hz)
      · exact hy.1 z hz
    · rw [mrg_ge hc]
      have hxy : c x y ≤ 0 := by rw [P.anti y x]; omega
      refine srtB_cons.2 ⟨fun z hz => ?_, mrg_sorted P n X (y :: Y) (by simp only [List.length_cons]; omega) hx.2 hY⟩
      rcases mrg_mem.1 hz with hz | hz
      · exact hx.1 z hz
      · rcases List.mem_cons.1 hz with rfl | hz
        · exact hxy
        · exact P.trans _ _ _ hxy (hy.1 z hz)

/-- What stands ahead on both sides is merged ahead. -/
theorem mrg_split (c : α → α → Int) : ∀ (n : Nat) (X1 X2 Y1 Y2 : List α), X1.length + Y1.length ≤ n →
    (∀ x ∈ X1, ∀ y ∈ Y2, ¬ c y x < 0) → (∀ y ∈ Y1, ∀ x ∈ X2, c y x < 0) → mrg c (X1 ++ X2) (Y1 ++ Y2) = mrg c X1 Y1 ++ mrg c X2 Y2
  | 0, X1, X2, Y1, Y2, h, _, _ => by
    have h1 : X1 = [] := List.eq_nil_of_length_eq_zero (by omega)
    have h2 : Y1 = [] := List.eq_nil_of_length_eq_zero (by omega)
    subst h1 h2; simp [mrg_nil_l]
  | n + 1, [], X2, [], Y2, _, _, _ => by simp [mrg_nil_l]
  | n + 1, [], [], y :: Y1, Y2, _, _, _ => by simp [mrg_nil_l]
  | n + 1, [], x :: X2, y :: Y1, Y2, h, h1, h2 => by
    have ih := mrg_split c n [] (x :: X2) Y1 Y2 (by simp only [List.length_cons, List.length_nil] at h ⊢; omega) h1 (fun z hz => h2 z (by simp [hz]))
    rw [List.nil_append, mrg_nil_l] at ih ⊢
    rw [List.cons_append, mrg_lt (h2 y (by simp) x (by simp)), ih, List.cons_append]
  | n + 1, x :: X1, X2, [], [], _, _, _ => by simp [mrg_nil_r]
  | n + 1, x :: X1, X2, [], y :: Y2, h, h1, h2 => by
    have ih := mrg_split c n X1 X2 [] (y :: Y2) (by simp only [List.length_cons, List.length_nil] at h ⊢; omega) (fun z hz => h1 z (by simp [hz])) h2
    rw [List.nil_append, mrg_nil_r] at ih ⊢
    rw [List.cons_append, mrg_ge (h1 x (by simp) y (by simp)), ih, List.cons_append]
  | n + 1, x :: X1, X2, y :: Y1, Y2, h, h1, h2 => by
    simp only [List.length_cons] at h
    by_cases hc : c y x < 0
    · have ih := mrg_split c n (x :: X1) X2 Y1 Y2 (by simp only [List.length_cons]; omega) h1 (fun z hz => h2 z (by simp [hz]))
      rw [List.cons_append, List.cons_append, mrg_lt hc, mrg_lt hc, List.cons_append, ← ih, List.cons_append]
    · have ih := mrg_split c n X1 X2 (y :: Y1) Y2 (by simp only [List.length_cons]; omega) (fun z hz => h1 z (by simp [hz])) h2
      rw [List.cons_append, List.cons_append, mrg_ge hc, mrg_ge hc, List.cons_append, ← ih, List.cons_append]
/-- one element into a sorted row, from either side -/
theorem mrg_one_l {x : α} {Y1 Y2 : List α} (h1 : ∀ y ∈ Y1, c y x < 0) (h2 : ∀ y ∈ Y2, ¬ c y x < 0) : mrg c [x] (Y1 ++ Y2) = Y1 ++ x :: Y2 := by
  have := mrg_split c _ [] [x] Y1 Y2 (Nat.le_refl _) (by simp) (by simpa using h1)
  rw [List.nil_append, mrg_nil_l] at this
  rw [this]
  congr 1
  cases Y2 with
  | nil => rw [mrg_nil_r]
  | cons y Y => rw [mrg_ge (h2 y (by simp)), mrg_nil_l]
theorem mrg_one_r {y : α} {X1 X2 : List α} (h1 : ∀ x ∈ X1, ¬ c y x < 0) (h2 : ∀ x ∈ X2, c y x < 0) : mrg c (X1 ++ X2) [y] = X1 ++ y :: X2 := by
  have := mrg_split c _ X1 X2 [] [y] (Nat.le_refl _) (by simpa using h1) (by simp)
  rw [List.nil_append, mrg_nil_r] at this
  rw [this]
  congr 1
  cases X2 with
  | nil => rw [mrg_nil_l]
  | cons x X => rw [mrg_lt (h2 x (by simp)), mrg_nil_r]

theorem insE_perm (c : α → α → Int) (acc : List α) (x : α) : (insE c acc x).Perm (acc ++ [x]) := by
  unfold insE
  have h : acc = (acc.reverse.dropWhile fun y => decide (c x y < 0)).reverse ++ (acc.reverse.takeWhile fun y => decide (c x y < 0)).reverse := by
    rw [← List.reverse_append, List.takeWhile_append_dropWhile, List.reverse_reverse]
  refine List.perm_middle.trans ?_
  rw [← h]
  exact (List.perm_append_singleton x acc).symm
theorem mem_takeWhile {p : α → Bool} : ∀ {l : List α} {z : α}, z ∈ l.takeWhile p → p z = true
  | [], z, h => by simp at h
  | x :: r, z, h => by
    rw [List.takeWhile_cons] at h
    split at h
    · rename_i hp
      rcases List.mem_cons.1 h with rfl | h
      · exact hp
      · exact mem_takeWhile h
    · simp at h
theorem insE_sorted (P : Pre c) {acc : List α} {x : α} (h : srtB c acc = true) : srtB c (insE c acc x) = true := by
  unfold insE
  have hs : acc = (acc.reverse.dropWhile fun y => decide (c x y < 0)).reverse ++ (acc.reverse.takeWhile fun y => decide (c x y < 0)).reverse := by
    rw [← List.reverse_append, List.takeWhile_append_dropWhile, List.reverse_reverse]
  rw [hs] at h
  have hT : ∀ y ∈ (acc.reverse.takeWhile fun y => decide (c x y < 0)).reverse, c x y < 0 := fun y hy => by
    have := mem_takeWhile (List.mem_reverse.1 hy); simpa using this
  have hD : (acc.reverse.dropWhile fun y => decide (c x y < 0)) = [] ∨ ∃ y r, (acc.reverse.dropWhile fun y => decide (c x y < 0)) = y :: r ∧ ¬ c x y < 0 := by
    cases hq : acc.reverse.dropWhile fun y => decide (c x y < 0) with
    | nil => exact .inl rfl
    | cons y r =>
      refine .inr ⟨y, r, rfl, ?_⟩
      have := List.head?_dropWhile_not (fun y => decide (c x y < 0)) acc.reverse
      rw [hq] at this; simpa using this
  revert h hT hD
  generalize (acc.reverse.takeWhile fun y => decide (c x y < 0)).reverse = T
  generalize (acc.reverse.dropWhile fun y => decide (c x y < 0)) = D
  clear hs
  intro h hT hD
  obtain ⟨h1, h2, h3⟩ := srtB_append.1 h
  refine srtB_append.2 ⟨h1, srtB_cons.2 ⟨fun y hy => by have := hT y hy; omega, h2⟩, fun z hz y hy => ?_⟩
  rcases List.mem_cons.1 hy with rfl | hy
  · rcases hD with rfl | ⟨w, r, rfl, hw⟩
    · simp at hz
    · have hwx : c w y ≤ 0 := by rw [P.anti y w]; omega
      rw [List.reverse_cons] at h1 hz
      rcases List.mem_append.1 hz with hz | hz
      · exact P.trans _ _ _ ((srtB_append.1 h1).2.2 z hz w (by simp)) hwx
      · rw [List.mem_singleton.1 hz]; exact hwx
  · exact h3 z hz y hy
theorem isort_fold (P : Pre c) : ∀ (l acc : List α), srtB c acc = true → srtB c (l.foldl (insE c) acc) = true ∧ (l.foldl (insE c) acc).Perm (acc ++ l)
  | [], acc, h => ⟨h, by simp⟩
  | x :: r, acc, h => by
    obtain ⟨h1, h2⟩ := isort_fold P r (insE c acc x) (insE_sorted P h)
    refine ⟨h1, h2.trans ?_⟩
    have := (insE_perm c acc x).append_right r
    rwa [List.append_assoc] at this
theorem isort_ok (P : Pre c) (l : List α) : srtB c (isort c l) = true ∧ (isort c l).Perm l := by
  have := isort_fold P l [] rfl
  simpa [isort] using this
/-- Of elements of which no two are of one rank there is one sorted row. -/
theorem sorted_unique (P : Pre c) : ∀ {a b : List α}, srtB c a = true → srtB c b = true → a.Perm b → (∀ x ∈ a, ∀ y ∈ a, c x y = 0 → x = y) → a = b
  | [], b, _, _, h, _ => by rw [h.symm.eq_nil]
  | x :: r, [], _, _, h, _ => by have := h.eq_nil; cases this
  | x :: r, y :: q, ha, hb, h, hu => by
    have hx := srtB_cons.1 ha
    have hy := srtB_cons.1 hb
    have e : x = y := by
      have hyx : y ∈ x :: r := h.mem_iff.2 (by simp)
      have hxy : x ∈ y :: q := h.mem_iff.1 (by simp)
      rcases List.mem_cons.1 hyx with e | hyx
      · exact e.symm
      · rcases List.mem_cons.1 hxy with e | hxy
        · exact e
        · have h1 := hx.1 y hyx
          have h2 := hy.1 x hxy
          rw [P.anti x y] at h2
          exact hu x (by simp) y (by simp [hyx]) (by omega)
    subst e
    have ih := sorted_unique P hx.2 hy.2 (h.cons_inv) (fun z hz w hw => hu z (by simp [hz]) w (by simp [hw]))
    rw [ih]
end Go.Proofs.Ytljfolepmkcjlaa.Srt

/-
  Slices that are sorted in place: the frames.
-/
namespace Go.Proofs.Ytljfolepmkcjlaa
open Go.RowKit Plain Am IntWalk
set_option maxRecDepth 100000

/-- the functions that are handed an array by reference -/
def refs : Nat → Bool := fun f => [72, 74, 87, 88, 100, 101, 104, 105].any (Nat.beq f)
noncomputable def cfB (l : List (Nat × Ent)) : Cfg := { E := Env.of Try.prog, K := konOf l, byref := refs, callOk := cok }
theorem cfB_ok {l : List (Nat × Ent)} (h : EntsOk Try.prog l) : Ok Try.prog (cfB l) := ⟨⟨rfl, konOf_ok h, fun _ h => h⟩, mixed⟩
def cmpv : RV := .clo (.func 39) [] []
abbrev chT : Nat := 46
/-- an own array of changes -/
def arC (l : List DV) : List PObj := [.arr 46 4 l]
end Go.Proofs.Ytljfolepmkcjlaa

/-
  Swapping ranges and rotating, run.
-/
namespace Go.Proofs.Ytljfolepmkcjlaa
open Go.RowKit Plain Am IntWalk
set_option maxRecDepth 100000
set_option linter.unusedVariables false
set_option linter.unusedSimpArgs false

noncomputable abbrev swC : Code := bodyOf Try.f105
def swS (l : List DV) (a b n i : Int) : ESt := { n := 38, m := 1, regs := T.mk [(0, .own 0 4), (1, .d (.int .i64 a)), (2, .d (.int .i64 b)), (3, .d (.int .i64 n)), (10, .d (.int .i64 i))], objs := T.mk [(0, .arr 46 4 l)] }
noncomputable abbrev roC' : Code := bodyOf Try.f104
def roS (l : List DV) (m i j : Int) : ESt := { n := 58, m := 1, regs := T.mk [(0, .own 0 4), (2, .d (.int .i64 m)), (4, cmpv), (10, .d (.int .i64 i)), (11, .d (.int .i64 j))], objs := T.mk [(0, .arr 46 4 l)] }
noncomputable abbrev inC : Code := bodyOf Try.f100
def inS (l : List DV) (a b i : Int) : ESt := { n := 53, m := 1, regs := T.mk [(0, .own 0 4), (1, .d (.int .i64 a)), (2, .d (.int .i64 b)), (3, cmpv), (8, .d (.int .i64 i))], objs := T.mk [(0, .arr 46 4 l)] }
def inJ (l : List DV) (a b i j : Int) : ESt := { n := 53, m := 1, regs := T.mk [(0, .own 0 4), (1, .d (.int .i64 a)), (2, .d (.int .i64 b)), (3, cmpv), (8, .d (.int .i64 i)), (9, .d (.int .i64 j))], objs := T.mk [(0, .arr 46 4 l)] }
/-- parts of a list -/
def part {α : Type} (l : List α) (a b : Nat) : List α := (l.take b).drop a
def swapL {α : Type} (l : List α) (a b n : Nat) : List α := l.take a ++ part l b (b + n) ++ part l (a + n) b ++ part l a (a + n) ++ l.drop (b + n)
def rotL {α : Type} (l : List α) (a m b : Nat) : List α := l.take a ++ part l m b ++ part l a m ++ l.drop b
def swE : Ent := fun a o => match a, o with
  | [.own 0 4, .d (.int .i64 p), .d (.int .i64 q), .d (.int .i64 n), _], [.arr T 4 els] =>
    some (.tup [], [.arr T 4 (swapL els p.toNat q.toNat n.toNat)], [Nat.beq T chT, els.all isC, decide (0 ≤ p), decide (0 ≤ n), decide (p + n ≤ q), decide (q + n ≤ els.length), decide (els.length ≤ 65536)])
  | _, _ => none
theorem set_mid {α : Type} (P : List α) (x y : α) (R : List α) (k : Nat) (h : k = P.length) : (P ++ x :: R).set k y = P ++ y :: R := by subst h; simp
theorem get_mid {α : Type} (P : List α) (x : α) (R : List α) (k : Nat) (h : k = P.length) : (P ++ x :: R)[k]? = some x := by subst h; simp
theorem getD_of {l : List Chg} {i : Nat} {x : Chg} (h : l[i]? = some x) : (l.map chD).getD i .nilp = chD x := by
  rw [List.getD_eq_getElem?_getD, List.getElem?_map, h]; rfl
theorem map_set' (l : List Chg) (i : Nat) (x : Chg) : (l.map chD).set i (chD x) = (l.set i x).map chD := by rw [List.map_set]
theorem all_isC {l : List Chg} (h : ∀ c ∈ l, Chg.ok c) : (l.map chD).all isC = true := by
  simp only [List.all_eq_true, List.mem_map]
  rintro x ⟨c, hc, rfl⟩
  exact isC_chD (h c hc)
theorem lt_of_some {α : Type} {l : List α} {i : Nat} {x : α} (h : l[i]? = some x) : i < l.length := (List.getElem?_eq_some_iff.1 h).1
theorem ov_load {l : List Chg} {i : Nat} {x : Chg} (h : l[i]? = some x) : RVle (.d (.agg (List.take 4 (List.drop 0 ((l.map chD).getD (Nat.cast (R := Int) i).toNat .nilp).cells)))) (.d (chD x)) := .of_eq (by rw [Int.toNat_natCast, getD_of h]; rfl)
theorem bd_ble {l : List Chg} {i : Nat} {x : Chg} (h : l[i]? = some x) : Nat.ble 4 ((l.map chD).getD (Nat.cast (R := Int) i).toNat .nilp).cells.length = true := by rw [Int.toNat_natCast, getD_of h]; rfl
theorem bd_in {l : List Chg} {i : Nat} {x : Chg} (h : l[i]? = some x) : decide ((0 : Int) ≤ (Nat.cast (R := Int) i) ∧ (Nat.cast (R := Int) i) < (Nat.cast (R := Int) (l.map chD).length)) = true := by
  have := lt_of_some h
  refine decide_eq_true ?_; rw [List.length_map]; omega
theorem bd_in2 {l : List Chg} {i : Nat} {x : Chg} (h : l[i]? = some x) : decide ((Nat.cast (R := Int) i).toNat < (l.map chD).length) = true := by
  have := lt_of_some h
  refine decide_eq_true ?_; rw [List.length_map]; omega
theorem part_eq {α : Type} (A X B : List α) (a b : Nat) (ha : a = A.length) (hb : b = A.length + X.length) : part (A ++ (X ++ B)) a b = X := by
  subst ha hb
  unfold part
  rw [← List.append_assoc, List.take_left' (by simp), List.drop_left' rfl]
theorem part_map {α β : Type} (f : α → β) (l : List α) (a b : Nat) : part (l.map f) a b = (part l a b).map f := by unfold part; rw [List.map_drop, List.map_take]
theorem swapL_map {α β : Type} (f : α → β) (l : List α) (a b n : Nat) : swapL (l.map f) a b n = (swapL l a b n).map f := by
  simp only [swapL, part_map, List.map_append, List.map_take, List.map_drop]
theorem swapL_eq {α : Type} (A X M Y B : List α) (a b n : Nat) (ha : a = A.length) (hb : b = A.length + X.length + M.length) (hx : X.length = n) (hy : Y.length = n) :
    swapL (A ++ (X ++ (M ++ (Y ++ B)))) a b n = A ++ (Y ++ (M ++ (X ++ B))) := by
  unfold swapL
  rw [part_eq A X _ a (a + n) ha (by omega)]
  have h1 : part (A ++ (X ++ (M ++ (Y ++ B)))) (a + n) b = M := by
    rw [← List.append_assoc]; exact part_eq (A ++ X) M _ _ _ (by simp; omega) (by simp; omega)
  have h2 : part (A ++ (X ++ (M ++ (Y ++ B)))) b (b + n) = Y := by
    rw [← List.append_assoc, ← List.append_assoc]; exact part_eq (A ++ X ++ M) Y _ _ _ (by simp; omega) (by simp; omega)
  have h3 : (A ++ (X ++ (M ++ (Y ++ B)))).drop (b + n) = B := by
    rw [← List.append_assoc, ← List.append_assoc, ← List.append_assoc]
    exact List.drop_left' (by simp; omega)
  rw [h1, h2, h3, List.take_left' ha.symm]
  simp only [List.append_assoc]
theorem part_len {α : Type} {l : List α} {a b : Nat} (h : b ≤ l.length) : (part l a b).length = b - a := by
  unfold part; rw [List.length_drop, List.length_take]; omega
theorem parts2 {α : Type} (l : List α) (a b : Nat) (h : a ≤ b) : l.drop a = part l a b ++ l.drop b := by
  unfold part
  conv => lhs; rw [← List.take_append_drop b l]
  rcases Nat.lt_or_ge l.length a with h1 | h1
  · rw [List.drop_eq_nil_of_le (by simp; omega), List.drop_eq_nil_of_le (by simp; omega), List.drop_eq_nil_of_le (by omega)]; rfl
  · rw [List.drop_append, List.length_take]
    rcases Nat.lt_or_ge l.length b with h2 | h2
    · have : (l.drop b) = [] := List.drop_eq_nil_of_le (by omega)
      rw [this]; simp
    · rw [show a - min b l.length = 0 by omega, List.drop_zero]
theorem parts5 {α : Type} (l : List α) (a b n : Nat) (h : a + n ≤ b) : l = l.take a ++ (part l a (a + n) ++ (part l (a + n) b ++ (part l b (b + n) ++ l.drop (b + n)))) := by
  rw [← parts2 l b (b + n) (by omega), ← parts2 l (a + n) b h, ← parts2 l a (a + n) (by omega), List.take_append_drop]
abbrev EndsB (f : List ResultVar) (l : List DV) : SSt → Prop := fun s => ∃ r objs' c, finish (Env.of Try.prog) false 1 f s.R s.O = some (r, objs', c) ∧ (∀ b ∈ c, b = true) ∧ r = .tup [] ∧ objs' = arC l

set_option maxHeartbeats 2000000 in
theorem sw_c (A X M Y B : List Chg) (hxy : X.length = Y.length) (hok : okL (A ++ (X ++ (M ++ (Y ++ B))))) (v : RV) :
    C Try.prog 105 [.own 0 4, .d (.int .i64 (A.length : Int)), .d (.int .i64 ((A.length + X.length + M.length : Nat) : Int)), .d (.int .i64 (X.length : Int)), v] (arC ((A ++ (X ++ (M ++ (Y ++ B)))).map chD))
      (fun r o => r = .tup [] ∧ o = arC ((A ++ (Y ++ (M ++ (X ++ B)))).map chD)) := by
  have ok := cfB_ok (l := []) .nil
  refine C_of_run (fn := Try.f105) (body := swC) false (by kernel_rfl) (by kernel_rfl) (by kernel_rfl) ?_
  obtain ⟨a, ha⟩ : ∃ a, A.length = a := ⟨_, rfl⟩
  obtain ⟨n, hn⟩ : ∃ n, X.length = n := ⟨_, rfl⟩
  obtain ⟨b, hb⟩ : ∃ b, A.length + X.length + M.length = b := ⟨_, rfl⟩
  have hlen : A.length + (X.length + (M.length + (Y.length + B.length))) ≤ 65536 := by simpa using hok.1
  obtain ⟨T, hT⟩ : ∃ T, A ++ (Y ++ (M ++ (X ++ B))) = T := ⟨_, rfl⟩
  have hloop : WK Try.prog 1 (stackAt swC 0) (swS ((A ++ (X ++ (M ++ (Y ++ B)))).map chD) (a : Int) (b : Int) (n : Int) 0).den (EndsB (Try.f105.results.toList) (T.map chD)) := by
    have key := WK.rec' (P := Try.prog) (m := 1) (k := stackAt swC 0) (Q := EndsB (Try.f105.results.toList) (T.map chD)) (fun (i : Nat) => swS ((A ++ (Y.take i ++ (X.drop i ++ (M ++ (X.take i ++ (Y.drop i ++ B)))))).map chD) (a : Int) (b : Int) (n : Int) (i : Int)) (fun i => i ≤ n) (fun i => n - i) ?_ 0 (Nat.zero_le _)
    · simpa using key
    intro i hi ih
    by_cases hlt : i < n
    · obtain ⟨x, hx⟩ : ∃ x, X[i]'(by omega) = x := ⟨_, rfl⟩
      obtain ⟨y, hy⟩ : ∃ y, Y[i]'(by omega) = y := ⟨_, rfl⟩
      have ex : X.drop i = x :: X.drop (i + 1) := by rw [List.drop_eq_getElem_cons (by omega), hx]
      have ey : Y.drop i = y :: Y.drop (i + 1) := by rw [List.drop_eq_getElem_cons (by omega), hy]
      have tx : X.take (i + 1) = X.take i ++ [x] := by rw [List.take_add_one, List.getElem?_eq_getElem (by omega), hx]; rfl
      have ty : Y.take (i + 1) = Y.take i ++ [y] := by rw [List.take_add_one, List.getElem?_eq_getElem (by omega), hy]; rfl
      have lyi : (Y.take i).length = i := by rw [List.length_take]; omega
      have lxi : (X.take i).length = i := by rw [List.length_take]; omega
      have lxd : (X.drop (i + 1)).length = n - i - 1 := by rw [List.length_drop]; omega
      have hnx := ih (i + 1) hlt (by omega)
      have e0 : A ++ (Y.take i ++ (X.drop i ++ (M ++ (X.take i ++ (Y.drop i ++ B))))) = (A ++ Y.take i) ++ x :: (X.drop (i + 1) ++ (M ++ (X.take i ++ (y :: (Y.drop (i + 1) ++ B))))) := by
        rw [ex, ey]; simp only [List.append_assoc, List.cons_append]
      have e1 : (A ++ Y.take i) ++ x :: (X.drop (i + 1) ++ (M ++ (X.take i ++ (y :: (Y.drop (i + 1) ++ B))))) = (A ++ (Y.take i ++ (x :: (X.drop (i + 1) ++ (M ++ X.take i))))) ++ y :: (Y.drop (i + 1) ++ B) := by
        simp only [List.append_assoc, List.cons_append]
      have e2 : ((((A ++ Y.take i) ++ x :: (X.drop (i + 1) ++ (M ++ (X.take i ++ (y :: (Y.drop (i + 1) ++ B)))))).set (a + i) y).set (b + i) x) = A ++ (Y.take (i + 1) ++ (X.drop (i + 1) ++ (M ++ (X.take (i + 1) ++ (Y.drop (i + 1) ++ B))))) := by
        rw [set_mid _ _ _ _ _ (by simp; omega)]
        have : (A ++ Y.take i) ++ y :: (X.drop (i + 1) ++ (M ++ (X.take i ++ (y :: (Y.drop (i + 1) ++ B))))) = (A ++ (Y.take i ++ (y :: (X.drop (i + 1) ++ (M ++ X.take i))))) ++ y :: (Y.drop (i + 1) ++ B) := by simp only [List.append_assoc, List.cons_append]
        rw [this, set_mid _ _ _ _ _ (by simp; omega), tx, ty]
        simp only [List.append_assoc, List.cons_append, List.nil_append]
      rw [← e2] at hnx
      rw [e0]
      obtain ⟨p, hp⟩ : ∃ p, a + i = p := ⟨_, rfl⟩
      obtain ⟨q, hq⟩ : ∃ q, b + i = q := ⟨_, rfl⟩
      have gx : ((A ++ Y.take i) ++ x :: (X.drop (i + 1) ++ (M ++ (X.take i ++ (y :: (Y.drop (i + 1) ++ B))))))[p]? = some x := get_mid _ _ _ _ (by simp; omega)
      have gy : ((A ++ Y.take i) ++ x :: (X.drop (i + 1) ++ (M ++ (X.take i ++ (y :: (Y.drop (i + 1) ++ B))))))[q]? = some y := by rw [e1]; exact get_mid _ _ _ _ (by simp; omega)
      rw [hp, hq] at hnx
      have hLl : ((A ++ Y.take i) ++ x :: (X.drop (i + 1) ++ (M ++ (X.take i ++ (y :: (Y.drop (i + 1) ++ B)))))).length ≤ 65536 := by simp only [List.length_append, List.length_cons, lyi, lxi, lxd, List.length_drop]; omega
      generalize ((A ++ Y.take i) ++ x :: (X.drop (i + 1) ++ (M ++ (X.take i ++ (y :: (Y.drop (i + 1) ++ B)))))) = L at *
      have hlq := lt_of_some gy
      have hset : ((L.map chD).set p (chD y)).length = (L.map chD).length := List.length_set ..
      have hml : (L.map chD).length = L.length := List.length_map ..
      rcases Bool.eq_false_or_eq_true (decide ((Nat.cast (R := Int) i) < (Nat.cast (R := Int) n)) : Bool) with h13 | h13
      · skip
        refine WK.segA ok 1000 0 [(19, RV.d (DV.int Go.IntKind.i64 (Nat.cast (R := Int) p))), (23, RV.d (DV.int Go.IntKind.i64 (Nat.cast (R := Int) q))), (27, RV.d (DV.int Go.IntKind.i64 (Nat.cast (R := Int) q))), (33, RV.d (DV.int Go.IntKind.i64 (Nat.cast (R := Int) p))), (29, RV.d (DV.agg [DV.str y.1, DV.lst 3 (List.map vD y.2) false, DV.lst 3 (List.map vD y.3) false, DV.lst 3 (List.map vD y.4) false])), (35, RV.d (DV.agg [DV.str x.1, DV.lst 3 (List.map vD x.2) false, DV.lst 3 (List.map vD x.3) false, DV.lst 3 (List.map vD x.4) false])), (15, RV.d (DV.int Go.IntKind.i64 (Nat.cast (R := Int) (i + 1)))), (13, RV.d (DV.bool true))] [] [0, 1, 2, 3, 10] [decide (0 ≤ (Nat.cast (R := Int) q) ∧ (Nat.cast (R := Int) q) < (Nat.cast (R := Int) (L.map chD).length)), decide ((Nat.cast (R := Int) q).toNat < (L.map chD).length), Nat.ble 4 ((L.map chD).getD (Nat.cast (R := Int) q).toNat DV.nilp).cells.length, decide (0 ≤ (Nat.cast (R := Int) p) ∧ (Nat.cast (R := Int) p) < (Nat.cast (R := Int) (L.map chD).length)), decide ((Nat.cast (R := Int) p).toNat < (L.map chD).length), Nat.ble 4 ((L.map chD).getD (Nat.cast (R := Int) p).toNat DV.nilp).cells.length, decide (0 ≤ (Nat.cast (R := Int) p) ∧ (Nat.cast (R := Int) p) < (Nat.cast (R := Int) (L.map chD).length)), decide ((Nat.cast (R := Int) p).toNat < (L.map chD).length), decide (0 ≤ (Nat.cast (R := Int) q) ∧ (Nat.cast (R := Int) q) < (Nat.cast (R := Int) ((L.map chD).set (Nat.cast (R := Int) p).toNat (chD y)).length)), decide ((Nat.cast (R := Int) q).toNat < ((L.map chD).set (Nat.cast (R := Int) p).toNat (chD y)).length)] [(RV.d (DV.bool (decide ((Nat.cast (R := Int) i) < (Nat.cast (R := Int) n)))), RV.d (DV.bool true)), (RV.d (DV.int Go.IntKind.i64 (Go.IntKind.i64.wrap ((Nat.cast (R := Int) a) + (Nat.cast (R := Int) i)))), RV.d (DV.int Go.IntKind.i64 (Nat.cast (R := Int) p))), (RV.d (DV.int Go.IntKind.i64 (Go.IntKind.i64.wrap ((Nat.cast (R := Int) b) + (Nat.cast (R := Int) i)))), RV.d (DV.int Go.IntKind.i64 (Nat.cast (R := Int) q))), (RV.d (DV.int Go.IntKind.i64 (Go.IntKind.i64.wrap ((Nat.cast (R := Int) b) + (Nat.cast (R := Int) i)))), RV.d (DV.int Go.IntKind.i64 (Nat.cast (R := Int) q))), (RV.d (DV.agg (List.take 4 (List.drop 0 ((L.map chD).getD (Nat.cast (R := Int) q).toNat DV.nilp).cells))), RV.d (DV.agg [DV.str y.1, DV.lst 3 (List.map vD y.2) false, DV.lst 3 (List.map vD y.3) false, DV.lst 3 (List.map vD y.4) false])), (RV.d (DV.int Go.IntKind.i64 (Go.IntKind.i64.wrap ((Nat.cast (R := Int) a) + (Nat.cast (R := Int) i)))), RV.d (DV.int Go.IntKind.i64 (Nat.cast (R := Int) p))), (RV.d (DV.agg (List.take 4 (List.drop 0 ((L.map chD).getD (Nat.cast (R := Int) p).toNat DV.nilp).cells))), RV.d (DV.agg [DV.str x.1, DV.lst 3 (List.map vD x.2) false, DV.lst 3 (List.map vD x.3) false, DV.lst 3 (List.map vD x.4) false])), (RV.d (DV.int Go.IntKind.i64 (Go.IntKind.i64.wrap ((Nat.cast (R := Int) i) + 1))), RV.d (DV.int Go.IntKind.i64 (Nat.cast (R := Int) (i + 1))))] rfl (by kernel_rfl : runSegA (cfB []) 1000 0 _ _ _ _ (swS (L.map chD) (a : Int) (b : Int) (n : Int) (i : Int)) = some (stackAt swC 0, swS (((L.map chD).set (Nat.cast (R := Int) p).toNat (DV.agg [DV.str y.1, DV.lst 3 (List.map vD y.2) false, DV.lst 3 (List.map vD y.3) false, DV.lst 3 (List.map vD y.4) false])).set (Nat.cast (R := Int) q).toNat (DV.agg [DV.str x.1, DV.lst 3 (List.map vD x.2) false, DV.lst 3 (List.map vD x.3) false, DV.lst 3 (List.map vD x.4) false])) (a : Int) (b : Int) (n : Int) ((i + 1 : Nat) : Int), _, _)) (by refine ⟨?_, ?_, ?_, ?_, ?_, ?_, ?_, ?_, ?_, ?_, trivial⟩ <;> (first | exact bd_in gy | exact bd_in2 gy | exact bd_ble gy | exact bd_in gx | exact bd_in2 gx | exact bd_ble gx | (refine decide_eq_true ?_; simp only [Int.toNat_natCast, List.length_set, List.length_map]; omega))) (by refine ⟨le_bool h13, ?_, ?_, ?_, ?_, ?_, ?_, ?_, trivial⟩ <;> (first | exact le_bool (decide_eq_true (by omega)) | exact ov_load gx | exact ov_load gy | (refine .of_eq (congrArg (fun z : Int => RV.d (.int .i64 z)) ?_); rw [i64_in _ (by omega)]; omega))) ?_
        show WK Try.prog 1 (stackAt swC 0) (swS (((L.map chD).set (p : Int).toNat (chD y)).set (q : Int).toNat (chD x)) (a : Int) (b : Int) (n : Int) ((i + 1 : Nat) : Int)).den _
        rw [Int.toNat_natCast, Int.toNat_natCast, map_set', map_set']
        exact hnx
      · skip
        exact WK.fin ok 1000 0 [(19, RV.d (DV.int Go.IntKind.i64 (Nat.cast (R := Int) p))), (23, RV.d (DV.int Go.IntKind.i64 (Nat.cast (R := Int) q))), (27, RV.d (DV.int Go.IntKind.i64 (Nat.cast (R := Int) q))), (33, RV.d (DV.int Go.IntKind.i64 (Nat.cast (R := Int) p))), (29, RV.d (DV.agg [DV.str y.1, DV.lst 3 (List.map vD y.2) false, DV.lst 3 (List.map vD y.3) false, DV.lst 3 (List.map vD y.4) false])), (35, RV.d (DV.agg [DV.str x.1, DV.lst 3 (List.map vD x.2) false, DV.lst 3 (List.map vD x.3) false, DV.lst 3 (List.map vD x.4) false])), (15, RV.d (DV.int Go.IntKind.i64 (Nat.cast (R := Int) (i + 1)))), (13, RV.d (DV.bool false))] [] [(RV.d (DV.bool (decide ((Nat.cast (R := Int) i) < (Nat.cast (R := Int) n)))), RV.d (DV.bool false))] rfl (by kernel_rfl : runEnd (cfB []) false _ 1000 0 _ _ (swS (L.map chD) (a : Int) (b : Int) (n : Int) (i : Int)) = some (RV.tup [], [PObj.arr 46 4 (L.map chD)], _, _)) trivial ⟨le_bool h13, trivial⟩ (by exfalso; have := of_decide_eq_false h13; omega)
    · have e : i = n := by omega
      have h13 : decide ((Nat.cast (R := Int) i) < (Nat.cast (R := Int) n)) = false := decide_eq_false (by omega)
      have eL : A ++ (Y.take i ++ (X.drop i ++ (M ++ (X.take i ++ (Y.drop i ++ B))))) = T := by
        rw [← hT, List.take_of_length_le (by omega), List.drop_eq_nil_of_le (by omega), List.take_of_length_le (by omega), List.drop_eq_nil_of_le (by omega)]
        rfl
      rw [eL]
      exact WK.fin ok 1000 0 [(13, .d (.bool false))] [] [(.d (.bool (decide ((Nat.cast (R := Int) i) < (Nat.cast (R := Int) n)))), .d (.bool false))] rfl (by kernel_rfl : runEnd (cfB []) false _ 1000 0 _ _ (swS (T.map chD) (a : Int) (b : Int) (n : Int) (i : Int)) = some (.tup [], arC (T.map chD), _, _)) trivial ⟨le_bool h13, trivial⟩ ⟨rfl, rfl⟩
  rw [hb, ha, hn, hT]
  generalize hL : A ++ (X ++ (M ++ (Y ++ B))) = L at hloop
  refine WK.segA ok 1000 0 [] [] [0, 1, 2, 3, 10] [] [] rfl (by kernel_rfl : runSegA (cfB []) 1000 0 _ _ _ _ (ini 38 [.own 0 4, .d (.int .i64 (a : Int)), .d (.int .i64 (b : Int)), .d (.int .i64 (n : Int)), v] (arC (L.map chD))) = some (stackAt swC 0, swS (L.map chD) (a : Int) (b : Int) (n : Int) 0, _, _)) trivial trivial ?_
  exact hloop
theorem sw_ent : EntOk Try.prog 105 swE := by
  intro a o r o' c hg hc
  unfold swE at hg
  split at hg
  · rename_i p q n v T els
    simp only [Option.some.injEq, Prod.mk.injEq] at hg
    obtain ⟨rfl, rfl, rfl⟩ := hg
    have hT := nbE (hc (Nat.beq T chT) (by simp))
    have h1 := hc (els.all isC) (by simp)
    have h2 := of_decide_eq_true (hc (decide (0 ≤ p)) (by simp))
    have h3 := of_decide_eq_true (hc (decide (0 ≤ n)) (by simp))
    have h4 := of_decide_eq_true (hc (decide (p + n ≤ q)) (by simp))
    have h5 := of_decide_eq_true (hc (decide (q + n ≤ els.length)) (by simp))
    have h6 := of_decide_eq_true (hc (decide (els.length ≤ 65536)) (by simp))
    subst hT
    obtain ⟨L, hL, hLok⟩ := isL_spec (x := .lst 4 els false) (by simp only [isL, h1, decide_eq_true h6]; rfl)
    have hL' : els = L.map chD := by simpa [chL] using hL
    subst hL'
    rw [List.length_map] at h5 h6
    obtain ⟨p, rfl⟩ : ∃ k : Nat, p = k := ⟨p.toNat, by omega⟩
    obtain ⟨n, rfl⟩ : ∃ k : Nat, n = k := ⟨n.toNat, by omega⟩
    obtain ⟨q, rfl⟩ : ∃ k : Nat, q = k := ⟨q.toNat, by omega⟩
    have e := parts5 L p q n (by omega)
    have l1 : (L.take p).length = p := by rw [List.length_take]; omega
    have l2 : (part L p (p + n)).length = n := by rw [part_len (by omega)]; omega
    have l3 : (part L (p + n) q).length = q - (p + n) := part_len (by omega)
    have l4 : (part L q (q + n)).length = n := by rw [part_len (by omega)]; omega
    have hsw : swapL L p q n = L.take p ++ (part L q (q + n) ++ (part L (p + n) q ++ (part L p (p + n) ++ L.drop (q + n)))) := by
      simp only [swapL, List.append_assoc]
    have := sw_c (L.take p) (part L p (p + n)) (part L (p + n) q) (part L q (q + n)) (L.drop (q + n)) (by omega) (by rw [← e]; exact hLok) v
    rw [← e, l1, l2, l3, show p + n + (q - (p + n)) = q by omega] at this
    simp only [Int.toNat_natCast]
    rw [swapL_map, hsw]
    exact this
  · cases hg
end Go.Proofs.Ytljfolepmkcjlaa

/-
  Rotating, run.
-/
namespace Go.Proofs.Ytljfolepmkcjlaa
open Go.RowKit Plain Am IntWalk
set_option maxRecDepth 100000
set_option linter.unusedVariables false
set_option linter.unusedSimpArgs false

noncomputable def ts1 : List (Nat × Ent) := [(105, swE)]
theorem ts1_ok : EntsOk Try.prog ts1 := .cons sw_ent .nil
theorem ok_perm4 {A X Y B : List Chg} (h : ∀ c ∈ A ++ (Y ++ (X ++ B)), Chg.ok c) : ∀ c ∈ A ++ (X ++ (Y ++ B)), Chg.ok c := by
  intro c hc
  simp only [List.mem_append] at hc h
  rcases hc with hc | hc | hc | hc
  · exact h c (.inl hc)
  · exact h c (.inr (.inr (.inl hc)))
  · exact h c (.inr (.inl hc))
  · exact h c (.inr (.inr (.inr hc)))
set_option maxHeartbeats 2000000 in
theorem rot_c (A X Y B : List Chg) (hx : 1 ≤ X.length) (hy : 1 ≤ Y.length) (hok : okL (A ++ (X ++ (Y ++ B)))) :
    C Try.prog 104 [.own 0 4, .d (.int .i64 (A.length : Int)), .d (.int .i64 ((A.length + X.length : Nat) : Int)), .d (.int .i64 ((A.length + X.length + Y.length : Nat) : Int)), cmpv] (arC ((A ++ (X ++ (Y ++ B))).map chD))
      (fun r o => r = .tup [] ∧ o = arC ((A ++ (Y ++ (X ++ B))).map chD)) := by
  have ok := cfB_ok ts1_ok
  refine C_of_run (fn := Try.f104) (body := roC') false (by kernel_rfl) (by kernel_rfl) (by kernel_rfl) ?_
  obtain ⟨T, hT⟩ : ∃ T, A ++ (Y ++ (X ++ B)) = T := ⟨_, rfl⟩
  have hTok : ∀ c ∈ T, Chg.ok c := by rw [← hT]; exact ok_perm4 hok.2
  have hTl : T.length ≤ 65536 := by
    have := hok.1
    rw [← hT]; simp only [List.length_append] at this ⊢; omega
  obtain ⟨m, hm⟩ : ∃ m, A.length + X.length = m := ⟨_, rfl⟩
  have hloop : WK Try.prog 1 (stackAt roC' 0) (roS ((A ++ (X ++ (Y ++ B))).map chD) (m : Int) (X.length : Int) (Y.length : Int)).den (EndsB (Try.f104.results.toList) (T.map chD)) := by
    refine WK.rec' (fun (q : List Chg × List Chg × List Chg × List Chg) => roS ((q.1 ++ (q.2.1 ++ (q.2.2.1 ++ q.2.2.2))).map chD) (m : Int) (q.2.1.length : Int) (q.2.2.1.length : Int)) (fun q => q.1.length + q.2.1.length = m ∧ 1 ≤ q.2.1.length ∧ 1 ≤ q.2.2.1.length ∧ q.1 ++ (q.2.2.1 ++ (q.2.1 ++ q.2.2.2)) = T) (fun q => q.2.1.length + q.2.2.1.length) ?_ (A, X, Y, B) ⟨hm, hx, hy, hT⟩
    rintro ⟨A', X', Y', B'⟩ ⟨h1, h2, h3, h4⟩ ih
    simp only at h1 h2 h3 h4 ih ⊢
    have hcok : ∀ c ∈ A' ++ (X' ++ (Y' ++ B')), Chg.ok c := ok_perm4 (by rw [h4]; exact hTok)
    have hcl : A'.length + (X'.length + (Y'.length + B'.length)) = (A' ++ (X' ++ (Y' ++ B'))).length := by simp
    have hcl2 : (A' ++ (X' ++ (Y' ++ B'))).length ≤ 65536 := by rw [← h4] at hTl; simp only [List.length_append] at hTl ⊢; omega
    have hall := all_isC hcok
    obtain ⟨i, hi⟩ : ∃ i, X'.length = i := ⟨_, rfl⟩
    obtain ⟨j, hj⟩ : ∃ j, Y'.length = j := ⟨_, rfl⟩
    obtain ⟨p, hp⟩ : ∃ p, m - i = p := ⟨_, rfl⟩
    obtain ⟨l, hl⟩ : ∃ l, (A' ++ (X' ++ (Y' ++ B'))).map chD = l := ⟨_, rfl⟩
    have hll : l.length = (A' ++ (X' ++ (Y' ++ B'))).length := by rw [← hl, List.length_map]
    rw [hl] at hall ⊢
    rw [hi, hj]
    by_cases hij : i = j
    · have e : swapL l p m i = T.map chD := by
        rw [← hl, swapL_map, ← h4]
        congr 1
        exact swapL_eq A' X' [] Y' B' p m i (by omega) (by simp; omega) hi (by omega)
      exact WK.fin ok 1000 0 [(20, RV.d (DV.bool false)), (53, RV.d (DV.int Go.IntKind.i64 (Nat.cast (R := Int) p)))] [true, l.all isC, true, true, decide ((Nat.cast (R := Int) p) + (Nat.cast (R := Int) i) ≤ (Nat.cast (R := Int) m)), decide ((Nat.cast (R := Int) m) + (Nat.cast (R := Int) i) ≤ (Nat.cast (R := Int) l.length)), decide (l.length ≤ 65536)] [(RV.d (DV.bool ((Nat.cast (R := Int) i) != (Nat.cast (R := Int) j))), RV.d (DV.bool false)), (RV.d (DV.int Go.IntKind.i64 (Go.IntKind.i64.wrap ((Nat.cast (R := Int) m) - (Nat.cast (R := Int) i)))), RV.d (DV.int Go.IntKind.i64 (Nat.cast (R := Int) p)))] rfl (by kernel_rfl : runEnd (cfB ts1) false _ 1000 0 _ _ (roS l (m : Int) (i : Int) (j : Int)) = some (RV.tup [], [PObj.arr 46 4 (swapL l (Nat.cast (R := Int) p).toNat (Nat.cast (R := Int) m).toNat (Nat.cast (R := Int) i).toNat)], _, _)) (by refine ⟨?_, ?_, ?_, ?_, ?_, ?_, ?_, trivial⟩ <;> (first | rfl | exact hall | exact decide_eq_true (by omega))) (by refine ⟨?_, ?_, trivial⟩ <;> (first | exact le_bool (bne_eq_false_iff_eq.2 (by omega)) | (refine .of_eq (congrArg (fun z : Int => RV.d (.int .i64 z)) ?_); rw [i64_in _ (by omega)]; omega))) ⟨rfl, by simp only [Int.toNat_natCast]; rw [e]; rfl⟩
    · obtain ⟨k, hk⟩ : ∃ k, (if j < i then i - j else j - i) = k := ⟨_, rfl⟩
      obtain ⟨q, hq⟩ : ∃ q, m + j - i = q := ⟨_, rfl⟩
      have hgt : decide ((Nat.cast (R := Int) j) < (Nat.cast (R := Int) i)) = true → k = i - j ∧ WK Try.prog 1 (stackAt roC' 0) (roS (swapL l p m j) (m : Int) (k : Int) (j : Int)).den (EndsB (Try.f104.results.toList) (T.map chD)) := fun h => by
        have h' := of_decide_eq_true h
        have hji : j < i := by omega
        rw [if_pos hji] at hk
        refine ⟨hk.symm, ?_⟩
        have l1 : (X'.take j).length = j := by rw [List.length_take]; omega
        have l2 : (X'.drop j).length = k := by rw [List.length_drop]; omega
        have hw := ih (A' ++ Y', X'.drop j, X'.take j, B') ⟨by simp only [List.length_append]; omega, by simp only; omega, by simp only; omega, by
          rw [← h4, ← List.append_assoc (X'.take j), List.take_append_drop, List.append_assoc]⟩ (by simp only; omega)
        simp only [l1, l2] at hw
        have e : swapL l p m j = ((A' ++ Y') ++ (X'.drop j ++ (X'.take j ++ B'))).map chD := by
          rw [← hl, swapL_map]
          congr 1
          have := swapL_eq A' (X'.take j) (X'.drop j) Y' B' p m j (by omega) (by omega) l1 hj
          rw [← List.append_assoc (X'.take j), List.take_append_drop] at this
          rw [this]; simp only [List.append_assoc]
        rw [e]; exact hw
      have hle : decide ((Nat.cast (R := Int) j) < (Nat.cast (R := Int) i)) = false → k = j - i ∧ WK Try.prog 1 (stackAt roC' 0) (roS (swapL l p q i) (m : Int) (i : Int) (k : Int)).den (EndsB (Try.f104.results.toList) (T.map chD)) := fun h => by
        have h' := of_decide_eq_false h
        have hji : ¬ j < i := by omega
        rw [if_neg hji] at hk
        refine ⟨hk.symm, ?_⟩
        have l1 : (Y'.take k).length = k := by rw [List.length_take]; omega
        have l2 : (Y'.drop k).length = i := by rw [List.length_drop]; omega
        have hw := ih (A', Y'.drop k, Y'.take k, X' ++ B') ⟨by simp only; omega, by simp only; omega, by simp only; omega, by
          rw [← h4, ← List.append_assoc (Y'.take k), List.take_append_drop]⟩ (by simp only; omega)
        simp only [l1, l2] at hw
        have e : swapL l p q i = (A' ++ (Y'.drop k ++ (Y'.take k ++ (X' ++ B')))).map chD := by
          rw [← hl, swapL_map]
          congr 1
          have := swapL_eq A' X' (Y'.take k) (Y'.drop k) B' p q i (by omega) (by omega) hi l2
          rw [← List.append_assoc (Y'.take k), List.take_append_drop] at this
          exact this
        rw [e]; exact hw
      rcases Bool.eq_false_or_eq_true (decide ((Nat.cast (R := Int) j) < (Nat.cast (R := Int) i)) : Bool) with h23 | h23
      · skip
        refine WK.segA ok 1000 0 [(20, RV.d (DV.bool true)), (27, RV.d (DV.int Go.IntKind.i64 (Nat.cast (R := Int) p))), (34, RV.d (DV.int Go.IntKind.i64 (Nat.cast (R := Int) k))), (38, RV.d (DV.int Go.IntKind.i64 (Nat.cast (R := Int) p))), (43, RV.d (DV.int Go.IntKind.i64 (Nat.cast (R := Int) q))), (49, RV.d (DV.int Go.IntKind.i64 (Nat.cast (R := Int) k))), (23, RV.d (DV.bool true))] [] [0, 2, 4, 10, 11] [true, l.all isC, true, true, decide ((Nat.cast (R := Int) p) + (Nat.cast (R := Int) j) ≤ (Nat.cast (R := Int) m)), decide ((Nat.cast (R := Int) m) + (Nat.cast (R := Int) j) ≤ (Nat.cast (R := Int) l.length)), decide (l.length ≤ 65536)] [(RV.d (DV.bool ((Nat.cast (R := Int) i) != (Nat.cast (R := Int) j))), RV.d (DV.bool true)), (RV.d (DV.bool (decide ((Nat.cast (R := Int) j) < (Nat.cast (R := Int) i)))), RV.d (DV.bool true)), (RV.d (DV.int Go.IntKind.i64 (Go.IntKind.i64.wrap ((Nat.cast (R := Int) m) - (Nat.cast (R := Int) i)))), RV.d (DV.int Go.IntKind.i64 (Nat.cast (R := Int) p))), (RV.d (DV.int Go.IntKind.i64 (Go.IntKind.i64.wrap ((Nat.cast (R := Int) i) - (Nat.cast (R := Int) j)))), RV.d (DV.int Go.IntKind.i64 (Nat.cast (R := Int) k)))] rfl (by kernel_rfl : runSegA (cfB ts1) 1000 0 _ _ _ _ (roS l (m : Int) (i : Int) (j : Int)) = some (stackAt roC' 0, roS (swapL l (Nat.cast (R := Int) p).toNat (Nat.cast (R := Int) m).toNat (Nat.cast (R := Int) j).toNat) (m : Int) (Nat.cast (R := Int) k) (Nat.cast (R := Int) j), _, _)) (by refine ⟨?_, ?_, ?_, ?_, ?_, ?_, ?_, trivial⟩ <;> (first | rfl | exact hall | exact decide_eq_true (by omega) | (refine decide_eq_true ?_; have := of_decide_eq_true h23; omega) | (refine decide_eq_true ?_; have := of_decide_eq_false h23; omega))) (by refine ⟨?_, le_bool h23, ?_, ?_, trivial⟩ <;> (first | exact le_bool (bne_iff_ne.2 (by omega)) | (refine .of_eq (congrArg (fun z : Int => RV.d (.int .i64 z)) ?_); rw [i64_in _ (by omega)]; omega) | (refine .of_eq (congrArg (fun z : Int => RV.d (.int .i64 z)) ?_); have h9 := of_decide_eq_true h23; have h8 := (hgt h23).1; rw [i64_in _ (by omega)]; omega) | (refine .of_eq (congrArg (fun z : Int => RV.d (.int .i64 z)) ?_); have h9 := of_decide_eq_false h23; have h8 := (hle h23).1; first | (rw [i64_in _ (by omega)]; omega) | (rw [i64_in (Nat.cast m + Nat.cast j) (by omega), i64_in _ (by omega)]; omega)))) ?_
        simp only [Int.toNat_natCast]
        first | exact (hgt h23).2 | exact (hle h23).2
      · skip
        refine WK.segA ok 1000 0 [(20, RV.d (DV.bool true)), (27, RV.d (DV.int Go.IntKind.i64 (Nat.cast (R := Int) p))), (34, RV.d (DV.int Go.IntKind.i64 (Nat.cast (R := Int) k))), (38, RV.d (DV.int Go.IntKind.i64 (Nat.cast (R := Int) p))), (43, RV.d (DV.int Go.IntKind.i64 (Nat.cast (R := Int) q))), (49, RV.d (DV.int Go.IntKind.i64 (Nat.cast (R := Int) k))), (23, RV.d (DV.bool false))] [] [0, 2, 4, 10, 11] [true, l.all isC, true, true, decide ((Nat.cast (R := Int) p) + (Nat.cast (R := Int) i) ≤ (Nat.cast (R := Int) q)), decide ((Nat.cast (R := Int) q) + (Nat.cast (R := Int) i) ≤ (Nat.cast (R := Int) l.length)), decide (l.length ≤ 65536)] [(RV.d (DV.bool ((Nat.cast (R := Int) i) != (Nat.cast (R := Int) j))), RV.d (DV.bool true)), (RV.d (DV.bool (decide ((Nat.cast (R := Int) j) < (Nat.cast (R := Int) i)))), RV.d (DV.bool false)), (RV.d (DV.int Go.IntKind.i64 (Go.IntKind.i64.wrap ((Nat.cast (R := Int) m) - (Nat.cast (R := Int) i)))), RV.d (DV.int Go.IntKind.i64 (Nat.cast (R := Int) p))), (RV.d (DV.int Go.IntKind.i64 (Go.IntKind.i64.wrap (Go.IntKind.i64.wrap ((Nat.cast (R := Int) m) + (Nat.cast (R := Int) j)) - (Nat.cast (R := Int) i)))), RV.d (DV.int Go.IntKind.i64 (Nat.cast (R := Int) q))), (RV.d (DV.int Go.IntKind.i64 (Go.IntKind.i64.wrap ((Nat.cast (R := Int) j) - (Nat.cast (R := Int) i)))), RV.d (DV.int Go.IntKind.i64 (Nat.cast (R := Int) k)))] rfl (by kernel_rfl : runSegA (cfB ts1) 1000 0 _ _ _ _ (roS l (m : Int) (i : Int) (j : Int)) = some (stackAt roC' 0, roS (swapL l (Nat.cast (R := Int) p).toNat (Nat.cast (R := Int) q).toNat (Nat.cast (R := Int) i).toNat) (m : Int) (Nat.cast (R := Int) i) (Nat.cast (R := Int) k), _, _)) (by refine ⟨?_, ?_, ?_, ?_, ?_, ?_, ?_, trivial⟩ <;> (first | rfl | exact hall | exact decide_eq_true (by omega) | (refine decide_eq_true ?_; have := of_decide_eq_true h23; omega) | (refine decide_eq_true ?_; have := of_decide_eq_false h23; omega))) (by refine ⟨?_, le_bool h23, ?_, ?_, ?_, trivial⟩ <;> (first | exact le_bool (bne_iff_ne.2 (by omega)) | (refine .of_eq (congrArg (fun z : Int => RV.d (.int .i64 z)) ?_); rw [i64_in _ (by omega)]; omega) | (refine .of_eq (congrArg (fun z : Int => RV.d (.int .i64 z)) ?_); have h9 := of_decide_eq_true h23; have h8 := (hgt h23).1; rw [i64_in _ (by omega)]; omega) | (refine .of_eq (congrArg (fun z : Int => RV.d (.int .i64 z)) ?_); have h9 := of_decide_eq_false h23; have h8 := (hle h23).1; first | (rw [i64_in _ (by omega)]; omega) | (rw [i64_in (Nat.cast m + Nat.cast j) (by omega), i64_in _ (by omega)]; omega)))) ?_
        simp only [Int.toNat_natCast]
        first | exact (hgt h23).2 | exact (hle h23).2
  rw [hm, hT]
  obtain ⟨a, ha⟩ : ∃ a, A.length = a := ⟨_, rfl⟩
  obtain ⟨b, hb⟩ : ∃ b, m + Y.length = b := ⟨_, rfl⟩
  have hTl2 : a + X.length + (Y.length + B.length) ≤ 65536 := by
    have := hok.1
    simp only [List.length_append] at this; omega
  obtain ⟨l, hl⟩ : ∃ l, (A ++ (X ++ (Y ++ B))).map chD = l := ⟨_, rfl⟩
  rw [hl] at hloop ⊢
  rw [ha, hb]
  have e1 : IntKind.i64.wrap ((Nat.cast (R := Int) m) - (Nat.cast (R := Int) a)) = (Nat.cast (R := Int) X.length) := by rw [i64_in _ (by omega)]; omega
  have e2 : IntKind.i64.wrap ((Nat.cast (R := Int) b) - (Nat.cast (R := Int) m)) = (Nat.cast (R := Int) Y.length) := by rw [i64_in _ (by omega)]; omega
  refine WK.segA ok 1000 0 [] [] [0, 2, 4, 10, 11] [] [] rfl (by kernel_rfl : runSegA (cfB ts1) 1000 0 _ _ _ _ (ini 58 [.own 0 4, .d (.int .i64 (a : Int)), .d (.int .i64 (m : Int)), .d (.int .i64 (b : Int)), cmpv] (arC l)) = some (stackAt roC' 0, roS l (m : Int) (IntKind.i64.wrap ((Nat.cast (R := Int) m) - (Nat.cast (R := Int) a))) (IntKind.i64.wrap ((Nat.cast (R := Int) b) - (Nat.cast (R := Int) m))), _, _)) trivial trivial ?_
  rw [e1, e2]
  exact hloop
def roE : Ent := fun a o => match a, o with
  | [.own 0 4, .d (.int .i64 p), .d (.int .i64 m), .d (.int .i64 q), .clo (.func f) [] []], [.arr T 4 els] =>
    some (.tup [], [.arr T 4 (rotL els p.toNat m.toNat q.toNat)], [Nat.beq T chT, Nat.beq f 39, els.all isC, decide (0 ≤ p), decide (p < m), decide (m < q), decide (q ≤ els.length), decide (els.length ≤ 65536)])
  | _, _ => none
theorem rotL_map {α β : Type} (f : α → β) (l : List α) (a b n : Nat) : rotL (l.map f) a b n = (rotL l a b n).map f := by
  simp only [rotL, part_map, List.map_append, List.map_take, List.map_drop]
theorem parts4 {α : Type} (l : List α) (a m b : Nat) (h : a ≤ m) (h2 : m ≤ b) : l = l.take a ++ (part l a m ++ (part l m b ++ l.drop b)) := by
  rw [← parts2 l m b h2, ← parts2 l a m h, List.take_append_drop]
theorem els_of {els : List DV} (h : els.all isC = true) (hl : els.length ≤ 65536) : ∃ L : List Chg, els = L.map chD ∧ okL L := by
  obtain ⟨L, hL, hLok⟩ := isL_spec (x := .lst 4 els false) (by simp only [isL, h, decide_eq_true hl]; rfl)
  exact ⟨L, by simpa [chL] using hL, hLok⟩
theorem ro_ent : EntOk Try.prog 104 roE := by
  intro a o r o' c hg hc
  unfold roE at hg
  split at hg
  · rename_i p m q f T els
    simp only [Option.some.injEq, Prod.mk.injEq] at hg
    obtain ⟨rfl, rfl, rfl⟩ := hg
    have hT := nbE (hc (Nat.beq T chT) (by simp))
    have hF := nbE (hc (Nat.beq f 39) (by simp))
    have h1 := hc (els.all isC) (by simp)
    have h2 := of_decide_eq_true (hc (decide (0 ≤ p)) (by simp))
    have h3 := of_decide_eq_true (hc (decide (p < m)) (by simp))
    have h4 := of_decide_eq_true (hc (decide (m < q)) (by simp))
    have h5 := of_decide_eq_true (hc (decide (q ≤ els.length)) (by simp))
    have h6 := of_decide_eq_true (hc (decide (els.length ≤ 65536)) (by simp))
    subst hT hF
    obtain ⟨L, rfl, hLok⟩ := els_of h1 h6
    rw [List.length_map] at h5 h6
    obtain ⟨p, rfl⟩ : ∃ k : Nat, p = k := ⟨p.toNat, by omega⟩
    obtain ⟨m, rfl⟩ : ∃ k : Nat, m = k := ⟨m.toNat, by omega⟩
    obtain ⟨q, rfl⟩ : ∃ k : Nat, q = k := ⟨q.toNat, by omega⟩
    have e := parts4 L p m q (by omega) (by omega)
    have l1 : (L.take p).length = p := by rw [List.length_take]; omega
    have l2 : (part L p m).length = m - p := part_len (by omega)
    have l3 : (part L m q).length = q - m := part_len (by omega)
    have := rot_c (L.take p) (part L p m) (part L m q) (L.drop q) (by omega) (by omega) (by rw [← e]; exact hLok)
    rw [← e, l1, l2, l3, show p + (m - p) = m by omega, show m + (q - m) = q by omega] at this
    simp only [Int.toNat_natCast]
    rw [rotL_map, show rotL L p m q = L.take p ++ (part L m q ++ (part L p m ++ L.drop q)) by simp only [rotL, List.append_assoc]]
    exact this
  · cases hg
end Go.Proofs.Ytljfolepmkcjlaa

/-
  Sorting by insertion, run.
-/
namespace Go.Proofs.Ytljfolepmkcjlaa
open Go.RowKit Plain Am IntWalk
set_option maxRecDepth 100000
set_option linter.unusedVariables false
set_option linter.unusedSimpArgs false

noncomputable def ts2 : List (Nat × Ent) := [(39, e2 ccG)]
theorem ts2_ok : EntsOk Try.prog ts2 := .cons (ccG_ent mc_c) .nil
theorem takeWhile_append_all {α : Type} {p : α → Bool} : ∀ {Q P : List α}, (∀ q ∈ Q, p q = true) → (P = [] ∨ ∃ y r, P = y :: r ∧ p y = false) → (Q ++ P).takeWhile p = Q ∧ (Q ++ P).dropWhile p = P
  | [], P, _, hP => by
    rcases hP with rfl | ⟨y, r, rfl, hy⟩
    · simp
    · simp [hy]
  | q :: Q, P, hQ, hP => by
    obtain ⟨h1, h2⟩ := takeWhile_append_all (Q := Q) (fun z hz => hQ z (by simp [hz])) hP
    have hq := hQ q (by simp)
    simp [hq, h1, h2]
theorem insE_spec {α : Type} {c : α → α → Int} {P Q : List α} {x : α} (hQ : ∀ q ∈ Q, c x q < 0) (hP : P = [] ∨ ∃ P' y, P = P' ++ [y] ∧ ¬ c x y < 0) : Srt.insE c (P ++ Q) x = P ++ x :: Q := by
  unfold Srt.insE
  rw [List.reverse_append]
  obtain ⟨h1, h2⟩ := takeWhile_append_all (p := fun y => decide (c x y < 0)) (Q := Q.reverse) (P := P.reverse) (fun q hq => by simpa using hQ q (List.mem_reverse.1 hq)) (by
    rcases hP with rfl | ⟨P', y, rfl, hy⟩
    · left; rfl
    · right; exact ⟨y, P'.reverse, by simp, by simpa using hy⟩)
  rw [h1, h2, List.reverse_reverse, List.reverse_reverse]
theorem isort_snoc {α : Type} (c : α → α → Int) (l : List α) (x : α) : Srt.isort c (l ++ [x]) = Srt.insE c (Srt.isort c l) x := by
  unfold Srt.isort; rw [List.foldl_append]; rfl
abbrev EndsI (l : List DV) : SSt → Prop := EndsB (Try.f100.results.toList) l
theorem dropI {l : List DV} {a b i j : Int} {st : List It} {Q : SSt → Prop} (h : WK Try.prog 1 st (inS l a b i).den Q) : WK Try.prog 1 st (inJ l a b i j).den Q :=
  doPost_wk (p := autoP [] [0, 1, 2, 3, 8] (inJ l a b i j)) (st := inJ l a b i j) (st' := inS l a b i) (by kernel_rfl) h
set_option maxHeartbeats 2000000 in
theorem in_inner (A acc R : List Chg) (x : Chg) (a b i : Nat) (ha : A.length = a) (hok : okL (A ++ (acc ++ (x :: R)))) (T : List DV) (hi : i ≤ 65536)
    (hk : WK Try.prog 1 (stackAt inC 0) (inS ((A ++ (Srt.insE cmpC acc x ++ R)).map chD) (a : Int) (b : Int) ((i + 1 : Nat) : Int)).den (EndsI T)) :
    WK Try.prog 1 (stackAt inC 1) (inJ ((A ++ (acc ++ (x :: R))).map chD) (a : Int) (b : Int) (i : Int) ((a + acc.length : Nat) : Int)).den (EndsI T) := by
  have ok := cfB_ok ts2_ok
  have hxo : Chg.ok x := hok.2 x (by simp)
  have hlen : a + (acc.length + (1 + R.length)) ≤ 65536 := by
    have := hok.1
    simp only [List.length_append, List.length_cons] at this; omega
  have key := WK.rec' (P := Try.prog) (m := 1) (k := stackAt inC 1) (Q := EndsI T) (fun (q : List Chg × List Chg) => inJ ((A ++ (q.1 ++ (x :: (q.2 ++ R)))).map chD) (a : Int) (b : Int) (i : Int) ((a + q.1.length : Nat) : Int)) (fun q => acc = q.1 ++ q.2 ∧ ∀ z ∈ q.2, cmpC x z < 0) (fun q => q.1.length) ?_ (acc, []) ⟨by simp, by simp⟩
  · simpa using key
  rintro ⟨P, Q⟩ ⟨hPQ, hQ⟩ ih
  simp only at hPQ hQ ih ⊢
  have hal : acc.length = P.length + Q.length := by rw [hPQ, List.length_append]
  have hdone : (P = [] ∨ ∃ P' y, P = P' ++ [y] ∧ ¬ cmpC x y < 0) → WK Try.prog 1 (stackAt inC 0) (inJ ((A ++ (P ++ (x :: (Q ++ R)))).map chD) (a : Int) (b : Int) ((i + 1 : Nat) : Int) ((a + P.length : Nat) : Int)).den (EndsI T) := fun h => by
    refine dropI ?_
    have e := insE_spec (c := cmpC) hQ h
    rw [← hPQ] at e
    rw [e] at hk
    simpa using hk
  rcases List.eq_nil_or_concat P with rfl | ⟨P', y, hPe⟩
  · have hd := hdone (.inl rfl)
    simp only [List.length_nil, Nat.add_zero] at hd ⊢
    obtain ⟨l, hl⟩ : ∃ l, (A ++ ([] ++ (x :: (Q ++ R)))).map chD = l := ⟨_, rfl⟩
    rw [hl] at hd ⊢
    obtain ⟨j, hj⟩ : ∃ j, a = j := ⟨_, rfl⟩
    have hd2 : WK Try.prog 1 (stackAt inC 0) (inJ l (a : Int) (b : Int) ((i + 1 : Nat) : Int) (j : Int)).den (EndsI T) := by rw [← hj]; exact hd
    show WK Try.prog 1 (stackAt inC 1) (inJ l (a : Int) (b : Int) (i : Int) ((a : Nat) : Int)).den _
    have hgo : WK Try.prog 1 (stackAt inC 1) (inJ l (a : Int) (b : Int) (i : Int) (j : Int)).den (EndsI T) := by
      refine WK.segA ok 1000 0 [(20, RV.d (DV.bool false)), (16, RV.d (DV.int Go.IntKind.i64 (Nat.cast (R := Int) (i + 1))))] [] [0, 1, 2, 3, 8, 9] [] [(RV.d (DV.bool (decide ((Nat.cast (R := Int) a) < (Nat.cast (R := Int) j)))), RV.d (DV.bool false)), (RV.d (DV.int Go.IntKind.i64 (Go.IntKind.i64.wrap ((Nat.cast (R := Int) i) + 1))), RV.d (DV.int Go.IntKind.i64 (Nat.cast (R := Int) (i + 1))))] rfl (by kernel_rfl : runSegA (cfB ts2) 1000 0 _ _ _ _ (inJ l (a : Int) (b : Int) (i : Int) (j : Int)) = some (stackAt inC 0, inJ l (a : Int) (b : Int) ((i + 1 : Nat) : Int) (j : Int), _, _)) trivial (by refine ⟨?_, ?_, trivial⟩ <;> (first | exact le_bool (decide_eq_false (by omega)) | exact ov_succ (by omega))) ?_
      exact hd2
    rw [← hj] at hgo
    exact hgo
  · rw [List.concat_eq_append] at hPe
    subst hPe
    have hyo : Chg.ok y := hok.2 y (by rw [hPQ]; simp)
    have hnx : cmpC x y < 0 → _ := fun h => ih (P', y :: Q) ⟨by rw [hPQ]; simp, fun z hz => by
      rcases List.mem_cons.1 hz with rfl | hz
      · exact h
      · exact hQ z hz⟩ (by simp)
    simp only at hnx
    have hd := fun h : ¬ cmpC x y < 0 => hdone (.inr ⟨P', y, rfl, h⟩)
    have e0 : A ++ (P' ++ [y] ++ (x :: (Q ++ R))) = (A ++ P') ++ y :: (x :: (Q ++ R)) := by simp
    have e1 : A ++ (P' ++ (x :: (y :: Q ++ R))) = (A ++ P') ++ x :: (y :: (Q ++ R)) := by simp
    rw [e0] at hd ⊢
    rw [e1] at hnx
    obtain ⟨k, hk'⟩ : ∃ k, a + P'.length = k := ⟨_, rfl⟩
    obtain ⟨j, hj⟩ : ∃ j, a + (P' ++ [y]).length = j := ⟨_, rfl⟩
    have hjk : j = k + 1 := by rw [← hj, ← hk']; simp; omega
    have hF : (A ++ P').length = k := by rw [List.length_append]; omega
    rw [hk'] at hnx
    rw [hj] at hd ⊢
    have hll : ((A ++ P') ++ y :: (x :: (Q ++ R))).length ≤ 65536 := by
      simp only [List.length_append, List.length_cons] at hal ⊢
      simp only [List.length_append, List.length_singleton, List.length_nil] at hal
      omega
    have gy : ((A ++ P') ++ y :: (x :: (Q ++ R)))[k]? = some y := get_mid _ _ _ _ hF.symm
    have gx : ((A ++ P') ++ y :: (x :: (Q ++ R)))[j]? = some x := by
      have := get_mid ((A ++ P') ++ [y]) x (Q ++ R) j (by simp only [List.length_append, List.length_singleton] at hF ⊢; omega)
      simpa using this
    have es : (((A ++ P') ++ y :: (x :: (Q ++ R))).set j y).set k x = (A ++ P') ++ x :: (y :: (Q ++ R)) := by
      have h1 : ((A ++ P') ++ y :: (x :: (Q ++ R))).set j y = (A ++ P') ++ y :: (y :: (Q ++ R)) := by
        have := set_mid ((A ++ P') ++ [y]) x y (Q ++ R) j (by simp only [List.length_append, List.length_singleton] at hF ⊢; omega)
        simpa using this
      rw [h1, set_mid _ _ _ _ _ hF.symm]
    rw [← es] at hnx
    generalize ((A ++ P') ++ y :: (x :: (Q ++ R))) = L at *
    have hlj := lt_of_some gx
    have hml : (L.map chD).length = L.length := List.length_map ..
    rcases Bool.eq_false_or_eq_true (decide (Plain.cmpC x y < 0) : Bool) with h34 | h34
    · skip
      have hrun : runSegA (cfB ts2) 1000 0 [(20, RV.d (DV.bool true)), (29, RV.d (DV.int Go.IntKind.i64 (Nat.cast (R := Int) k))), (26, RV.d (DV.agg [DV.str x.1, DV.lst 3 (List.map vD x.2) false, DV.lst 3 (List.map vD x.3) false, DV.lst 3 (List.map vD x.4) false])), (31, RV.d (DV.agg [DV.str y.1, DV.lst 3 (List.map vD y.2) false, DV.lst 3 (List.map vD y.3) false, DV.lst 3 (List.map vD y.4) false])), (32, RV.d (DV.int Go.IntKind.i64 (Plain.cmpC x y))), (41, RV.d (DV.int Go.IntKind.i64 (Nat.cast (R := Int) k))), (44, RV.d (DV.int Go.IntKind.i64 (Nat.cast (R := Int) k))), (46, RV.d (DV.agg [DV.str y.1, DV.lst 3 (List.map vD y.2) false, DV.lst 3 (List.map vD y.3) false, DV.lst 3 (List.map vD y.4) false])), (50, RV.d (DV.agg [DV.str x.1, DV.lst 3 (List.map vD x.2) false, DV.lst 3 (List.map vD x.3) false, DV.lst 3 (List.map vD x.4) false])), (36, RV.d (DV.int Go.IntKind.i64 (Nat.cast (R := Int) k))), (16, RV.d (DV.int Go.IntKind.i64 (Nat.cast (R := Int) (i + 1)))), (34, RV.d (DV.bool true))] [] [0, 1, 2, 3, 8, 9] (stackAt inC 1) (inJ (L.map chD) (a : Int) (b : Int) (i : Int) (j : Int)) = some (stackAt inC 1, inJ (((L.map chD).set (Nat.cast (R := Int) j).toNat (DV.agg [DV.str y.1, DV.lst 3 (List.map vD y.2) false, DV.lst 3 (List.map vD y.3) false, DV.lst 3 (List.map vD y.4) false])).set (Nat.cast (R := Int) k).toNat (DV.agg [DV.str x.1, DV.lst 3 (List.map vD x.2) false, DV.lst 3 (List.map vD x.3) false, DV.lst 3 (List.map vD x.4) false])) (a : Int) (b : Int) (Nat.cast (R := Int) i) (Nat.cast (R := Int) k), [decide (0 ≤ (Nat.cast (R := Int) j) ∧ (Nat.cast (R := Int) j) < (Nat.cast (R := Int) (L.map chD).length)), decide ((Nat.cast (R := Int) j).toNat < (L.map chD).length), Nat.ble 4 ((L.map chD).getD (Nat.cast (R := Int) j).toNat DV.nilp).cells.length, decide (0 ≤ (Nat.cast (R := Int) k) ∧ (Nat.cast (R := Int) k) < (Nat.cast (R := Int) (L.map chD).length)), decide ((Nat.cast (R := Int) k).toNat < (L.map chD).length), Nat.ble 4 ((L.map chD).getD (Nat.cast (R := Int) k).toNat DV.nilp).cells.length, isC (DV.agg [DV.str x.1, DV.lst 3 (List.map vD x.2) false, DV.lst 3 (List.map vD x.3) false, DV.lst 3 (List.map vD x.4) false]), isC (DV.agg [DV.str y.1, DV.lst 3 (List.map vD y.2) false, DV.lst 3 (List.map vD y.3) false, DV.lst 3 (List.map vD y.4) false]), decide (0 ≤ (Nat.cast (R := Int) k) ∧ (Nat.cast (R := Int) k) < (Nat.cast (R := Int) (L.map chD).length)), decide ((Nat.cast (R := Int) k).toNat < (L.map chD).length), Nat.ble 4 ((L.map chD).getD (Nat.cast (R := Int) k).toNat DV.nilp).cells.length, decide (0 ≤ (Nat.cast (R := Int) j) ∧ (Nat.cast (R := Int) j) < (Nat.cast (R := Int) (L.map chD).length)), decide ((Nat.cast (R := Int) j).toNat < (L.map chD).length), Nat.ble 4 ((L.map chD).getD (Nat.cast (R := Int) j).toNat DV.nilp).cells.length, decide (0 ≤ (Nat.cast (R := Int) j) ∧ (Nat.cast (R := Int) j) < (Nat.cast (R := Int) (L.map chD).length)), decide ((Nat.cast (R := Int) j).toNat < (L.map chD).length), decide (0 ≤ (Nat.cast (R := Int) k) ∧ (Nat.cast (R := Int) k) < (Nat.cast (R := Int) ((L.map chD).set (Nat.cast (R := Int) j).toNat (chD y)).length)), decide ((Nat.cast (R := Int) k).toNat < ((L.map chD).set (Nat.cast (R := Int) j).toNat (chD y)).length)], [(RV.d (DV.bool (decide ((Nat.cast (R := Int) a) < (Nat.cast (R := Int) j)))), RV.d (DV.bool true)), (RV.d (DV.agg (List.take 4 (List.drop 0 ((L.map chD).getD (Nat.cast (R := Int) j).toNat DV.nilp).cells))), RV.d (DV.agg [DV.str x.1, DV.lst 3 (List.map vD x.2) false, DV.lst 3 (List.map vD x.3) false, DV.lst 3 (List.map vD x.4) false])), (RV.d (DV.int Go.IntKind.i64 (Go.IntKind.i64.wrap ((Nat.cast (R := Int) j) - 1))), RV.d (DV.int Go.IntKind.i64 (Nat.cast (R := Int) k))), (RV.d (DV.agg (List.take 4 (List.drop 0 ((L.map chD).getD (Nat.cast (R := Int) k).toNat DV.nilp).cells))), RV.d (DV.agg [DV.str y.1, DV.lst 3 (List.map vD y.2) false, DV.lst 3 (List.map vD y.3) false, DV.lst 3 (List.map vD y.4) false])), (RV.d (DV.int Go.IntKind.i64 (Plain.cmpC { t := x.1, k := List.map toVal (List.map vD x.k), o := List.map toVal (List.map vD x.o), n := List.map toVal (List.map vD x.n) } { t := y.1, k := List.map toVal (List.map vD y.k), o := List.map toVal (List.map vD y.o), n := List.map toVal (List.map vD y.n) })), RV.d (DV.int Go.IntKind.i64 (Plain.cmpC x y))), (RV.d (DV.bool (decide (Plain.cmpC x y < 0))), RV.d (DV.bool true)), (RV.d (DV.int Go.IntKind.i64 (Go.IntKind.i64.wrap ((Nat.cast (R := Int) j) - 1))), RV.d (DV.int Go.IntKind.i64 (Nat.cast (R := Int) k))), (RV.d (DV.int Go.IntKind.i64 (Go.IntKind.i64.wrap ((Nat.cast (R := Int) j) - 1))), RV.d (DV.int Go.IntKind.i64 (Nat.cast (R := Int) k))), (RV.d (DV.agg (List.take 4 (List.drop 0 ((L.map chD).getD (Nat.cast (R := Int) k).toNat DV.nilp).cells))), RV.d (DV.agg [DV.str y.1, DV.lst 3 (List.map vD y.2) false, DV.lst 3 (List.map vD y.3) false, DV.lst 3 (List.map vD y.4) false])), (RV.d (DV.agg (List.take 4 (List.drop 0 ((L.map chD).getD (Nat.cast (R := Int) j).toNat DV.nilp).cells))), RV.d (DV.agg [DV.str x.1, DV.lst 3 (List.map vD x.2) false, DV.lst 3 (List.map vD x.3) false, DV.lst 3 (List.map vD x.4) false])), (RV.d (DV.int Go.IntKind.i64 (Go.IntKind.i64.wrap ((Nat.cast (R := Int) j) - 1))), RV.d (DV.int Go.IntKind.i64 (Nat.cast (R := Int) k)))]) := by kernel_rfl
      refine WK.segA (st := (inJ (L.map chD) (a : Int) (b : Int) (i : Int) (j : Int))) (st' := inJ (((L.map chD).set (Nat.cast (R := Int) j).toNat (DV.agg [DV.str y.1, DV.lst 3 (List.map vD y.2) false, DV.lst 3 (List.map vD y.3) false, DV.lst 3 (List.map vD y.4) false])).set (Nat.cast (R := Int) k).toNat (DV.agg [DV.str x.1, DV.lst 3 (List.map vD x.2) false, DV.lst 3 (List.map vD x.3) false, DV.lst 3 (List.map vD x.4) false])) (a : Int) (b : Int) (Nat.cast (R := Int) i) (Nat.cast (R := Int) k)) (k := (stackAt inC 1)) (k' := stackAt inC 1) ok 1000 0 _ _ _ _ _ rfl hrun (by refine ⟨?_, ?_, ?_, ?_, ?_, ?_, ?_, ?_, ?_, ?_, ?_, ?_, ?_, ?_, ?_, ?_, ?_, ?_, trivial⟩ <;> (first | exact bd_in gx | exact bd_in2 gx | exact bd_ble gx | exact bd_in gy | exact bd_in2 gy | exact bd_ble gy | exact isC_chD hxo | exact isC_chD hyo | (refine decide_eq_true ?_; simp only [Int.toNat_natCast, List.length_set, List.length_map]; omega))) (by refine ⟨?_, ?_, ?_, ?_, ?_, le_bool h34, ?_, ?_, ?_, ?_, ?_, trivial⟩ <;> (first | exact le_bool (decide_eq_true (by omega)) | exact ov_load gx | exact ov_load gy | exact ov_C x y | exact ov_succ (by omega) | (refine .of_eq (congrArg (fun z : Int => RV.d (.int .i64 z)) ?_); rw [i64_in _ (by omega)]; omega))) ?_
      first | (have hw := hnx (of_decide_eq_true h34); rw [← map_set', ← map_set'] at hw; show WK Try.prog 1 (stackAt inC 1) (inJ (((L.map chD).set (j : Int).toNat (chD y)).set (k : Int).toNat (chD x)) (a : Int) (b : Int) (i : Int) (k : Int)).den _; simp only [Int.toNat_natCast]; exact hw) | exact hd (of_decide_eq_false h34)
    · skip
      have hrun : runSegA (cfB ts2) 1000 0 [(20, RV.d (DV.bool true)), (29, RV.d (DV.int Go.IntKind.i64 (Nat.cast (R := Int) k))), (26, RV.d (DV.agg [DV.str x.1, DV.lst 3 (List.map vD x.2) false, DV.lst 3 (List.map vD x.3) false, DV.lst 3 (List.map vD x.4) false])), (31, RV.d (DV.agg [DV.str y.1, DV.lst 3 (List.map vD y.2) false, DV.lst 3 (List.map vD y.3) false, DV.lst 3 (List.map vD y.4) false])), (32, RV.d (DV.int Go.IntKind.i64 (Plain.cmpC x y))), (41, RV.d (DV.int Go.IntKind.i64 (Nat.cast (R := Int) k))), (44, RV.d (DV.int Go.IntKind.i64 (Nat.cast (R := Int) k))), (46, RV.d (DV.agg [DV.str y.1, DV.lst 3 (List.map vD y.2) false, DV.lst 3 (List.map vD y.3) false, DV.lst 3 (List.map vD y.4) false])), (50, RV.d (DV.agg [DV.str x.1, DV.lst 3 (List.map vD x.2) false, DV.lst 3 (List.map vD x.3) false, DV.lst 3 (List.map vD x.4) false])), (36, RV.d (DV.int Go.IntKind.i64 (Nat.cast (R := Int) k))), (16, RV.d (DV.int Go.IntKind.i64 (Nat.cast (R := Int) (i + 1)))), (34, RV.d (DV.bool false))] [] [0, 1, 2, 3, 8, 9] (stackAt inC 1) (inJ (L.map chD) (a : Int) (b : Int) (i : Int) (j : Int)) = some (stackAt inC 0, inJ (L.map chD) (a : Int) (b : Int) (Nat.cast (R := Int) (i + 1)) (Nat.cast (R := Int) j), [decide (0 ≤ (Nat.cast (R := Int) j) ∧ (Nat.cast (R := Int) j) < (Nat.cast (R := Int) (L.map chD).length)), decide ((Nat.cast (R := Int) j).toNat < (L.map chD).length), Nat.ble 4 ((L.map chD).getD (Nat.cast (R := Int) j).toNat DV.nilp).cells.length, decide (0 ≤ (Nat.cast (R := Int) k) ∧ (Nat.cast (R := Int) k) < (Nat.cast (R := Int) (L.map chD).length)), decide ((Nat.cast (R := Int) k).toNat < (L.map chD).length), Nat.ble 4 ((L.map chD).getD (Nat.cast (R := Int) k).toNat DV.nilp).cells.length, isC (DV.agg [DV.str x.1, DV.lst 3 (List.map vD x.2) false, DV.lst 3 (List.map vD x.3) false, DV.lst 3 (List.map vD x.4) false]), isC (DV.agg [DV.str y.1, DV.lst 3 (List.map vD y.2) false, DV.lst 3 (List.map vD y.3) false, DV.lst 3 (List.map vD y.4) false])], [(RV.d (DV.bool (decide ((Nat.cast (R := Int) a) < (Nat.cast (R := Int) j)))), RV.d (DV.bool true)), (RV.d (DV.agg (List.take 4 (List.drop 0 ((L.map chD).getD (Nat.cast (R := Int) j).toNat DV.nilp).cells))), RV.d (DV.agg [DV.str x.1, DV.lst 3 (List.map vD x.2) false, DV.lst 3 (List.map vD x.3) false, DV.lst 3 (List.map vD x.4) false])), (RV.d (DV.int Go.IntKind.i64 (Go.IntKind.i64.wrap ((Nat.cast (R := Int) j) - 1))), RV.d (DV.int Go.IntKind.i64 (Nat.cast (R := Int) k))), (RV.d (DV.agg (List.take 4 (List.drop 0 ((L.map chD).getD (Nat.cast (R := Int) k).toNat DV.nilp).cells))), RV.d (DV.agg [DV.str y.1, DV.lst 3 (List.map vD y.2) false, DV.lst 3 (List.map vD y.3) false, DV.lst 3 (List.map vD y.4) false])), (RV.d (DV.int Go.IntKind.i64 (Plain.cmpC { t := x.1, k := List.map toVal (List.map vD x.k), o := List.map toVal (List.map vD x.o), n := List.map toVal (List.map vD x.n) } { t := y.1, k := List.map toVal (List.map vD y.k), o := List.map toVal (List.map vD y.o), n := List.map toVal (List.map vD y.n) })), RV.d (DV.int Go.IntKind.i64 (Plain.cmpC x y))), (RV.d (DV.bool (decide (Plain.cmpC x y < 0))), RV.d (DV.bool false)), (RV.d (DV.int Go.IntKind.i64 (Go.IntKind.i64.wrap ((Nat.cast (R := Int) i) + 1))), RV.d (DV.int Go.IntKind.i64 (Nat.cast (R := Int) (i + 1))))]) := by kernel_rfl
      refine WK.segA (st := (inJ (L.map chD) (a : Int) (b : Int) (i : Int) (j : Int))) (st' := inJ (L.map chD) (a : Int) (b : Int) (Nat.cast (R := Int) (i + 1)) (Nat.cast (R := Int) j)) (k := (stackAt inC 1)) (k' := stackAt inC 0) ok 1000 0 _ _ _ _ _ rfl hrun (by refine ⟨?_, ?_, ?_, ?_, ?_, ?_, ?_, ?_, trivial⟩ <;> (first | exact bd_in gx | exact bd_in2 gx | exact bd_ble gx | exact bd_in gy | exact bd_in2 gy | exact bd_ble gy | exact isC_chD hxo | exact isC_chD hyo | (refine decide_eq_true ?_; simp only [Int.toNat_natCast, List.length_set, List.length_map]; omega))) (by refine ⟨?_, ?_, ?_, ?_, ?_, le_bool h34, ?_, trivial⟩ <;> (first | exact le_bool (decide_eq_true (by omega)) | exact ov_load gx | exact ov_load gy | exact ov_C x y | exact ov_succ (by omega) | (refine .of_eq (congrArg (fun z : Int => RV.d (.int .i64 z)) ?_); rw [i64_in _ (by omega)]; omega))) ?_
      first | (have hw := hnx (of_decide_eq_true h34); rw [← map_set', ← map_set'] at hw; show WK Try.prog 1 (stackAt inC 1) (inJ (((L.map chD).set (j : Int).toNat (chD y)).set (k : Int).toNat (chD x)) (a : Int) (b : Int) (i : Int) (k : Int)).den _; simp only [Int.toNat_natCast]; exact hw) | exact hd (of_decide_eq_false h34)
set_option maxHeartbeats 2000000 in
theorem ins_c (A S B : List Chg) (hok : okL (A ++ (S ++ B))) :
    C Try.prog 100 [.own 0 4, .d (.int .i64 (A.length : Int)), .d (.int .i64 ((A.length + S.length : Nat) : Int)), cmpv] (arC ((A ++ (S ++ B)).map chD))
      (fun r o => r = .tup [] ∧ o = arC ((A ++ (Srt.isort cmpC S ++ B)).map chD)) := by
  have ok := cfB_ok ts2_ok
  refine C_of_run (fn := Try.f100) (body := inC) false (by kernel_rfl) (by kernel_rfl) (by kernel_rfl) ?_
  obtain ⟨a, ha⟩ : ∃ a, A.length = a := ⟨_, rfl⟩
  obtain ⟨b, hb⟩ : ∃ b, A.length + S.length = b := ⟨_, rfl⟩
  obtain ⟨T, hT⟩ : ∃ T, (A ++ (Srt.isort cmpC S ++ B)).map chD = T := ⟨_, rfl⟩
  have hlen : a + (S.length + B.length) ≤ 65536 := by
    have := hok.1
    simp only [List.length_append] at this; omega
  have hperm : ∀ l : List Chg, (Srt.isort cmpC l).Perm l := fun l => by
    unfold Srt.isort
    have : ∀ (r acc : List Chg), (r.foldl (Srt.insE cmpC) acc).Perm (acc ++ r) := by
      intro r
      induction r with
      | nil => intro acc; simp
      | cons x r ih =>
        intro acc
        refine (ih (Srt.insE cmpC acc x)).trans ?_
        have := (Srt.insE_perm cmpC acc x).append_right r
        rwa [List.append_assoc] at this
    simpa using this l []
  have hloop : WK Try.prog 1 (stackAt inC 0) (inS ((A ++ (S ++ B)).map chD) (a : Int) (b : Int) ((a + 1 : Nat) : Int)).den (EndsI T) := by
    have key := WK.rec' (P := Try.prog) (m := 1) (k := stackAt inC 0) (Q := EndsI T) (fun (t : Nat) => inS ((A ++ (Srt.isort cmpC (S.take (1 + t)) ++ (S.drop (1 + t) ++ B))).map chD) (a : Int) (b : Int) ((a + 1 + t : Nat) : Int)) (fun _ => True) (fun t => S.length - (1 + t)) ?_ 0 trivial
    · have e1 : Srt.isort cmpC (S.take 1) = S.take 1 := by cases S <;> rfl
      simp only [Nat.add_zero, e1] at key
      rw [← List.append_assoc (S.take 1), List.take_append_drop] at key
      exact key
    intro t _ ih
    obtain ⟨i, hi⟩ : ∃ i, a + 1 + t = i := ⟨_, rfl⟩
    rw [hi]
    have hend : decide ((Nat.cast (R := Int) i) < (Nat.cast (R := Int) b)) = false → (A ++ (Srt.isort cmpC (S.take (1 + t)) ++ (S.drop (1 + t) ++ B))).map chD = T := fun h => by
      have := of_decide_eq_false h
      rw [List.take_of_length_le (by omega), List.drop_eq_nil_of_le (by omega), List.nil_append, hT]
    have hin : decide ((Nat.cast (R := Int) i) < (Nat.cast (R := Int) b)) = true → WK Try.prog 1 (stackAt inC 1) (inJ ((A ++ (Srt.isort cmpC (S.take (1 + t)) ++ (S.drop (1 + t) ++ B))).map chD) (a : Int) (b : Int) (i : Int) (i : Int)).den (EndsI T) := fun h => by
      have h' := of_decide_eq_true h
      obtain ⟨x, hx⟩ : ∃ x, S[1 + t]'(by omega) = x := ⟨_, rfl⟩
      have ex : S.drop (1 + t) = x :: S.drop (1 + (t + 1)) := by rw [List.drop_eq_getElem_cons (by omega), hx]; rfl
      have tx : S.take (1 + (t + 1)) = S.take (1 + t) ++ [x] := by rw [show 1 + (t + 1) = 1 + t + 1 by omega, List.take_add_one, List.getElem?_eq_getElem (by omega), hx]; rfl
      have hil : (Srt.isort cmpC (S.take (1 + t))).length = 1 + t := by rw [(hperm _).length_eq, List.length_take]; omega
      have hw := ih (t + 1) trivial (by omega)
      rw [tx, isort_snoc, show a + 1 + (t + 1) = i + 1 by omega] at hw
      have hkk := in_inner A (Srt.isort cmpC (S.take (1 + t))) (S.drop (1 + (t + 1)) ++ B) x a b i ha ?_ T (by omega) hw
      · rw [hil, show a + (1 + t) = i by omega] at hkk
        rw [ex]
        exact hkk
      · refine ⟨?_, fun c hc => ?_⟩
        · simp only [List.length_append, List.length_cons, hil, List.length_drop]; omega
        · refine hok.2 c ?_
          simp only [List.mem_append, List.mem_cons] at hc ⊢
          rcases hc with hc | hc | hc | hc | hc
          · exact .inl hc
          · exact .inr (.inl (List.mem_of_mem_take ((hperm _).mem_iff.1 hc)))
          · rw [hc, ← hx]; exact .inr (.inl (List.getElem_mem _))
          · exact .inr (.inl (List.mem_of_mem_drop hc))
          · exact .inr (.inr hc)
    obtain ⟨l, hl⟩ : ∃ l, (A ++ (Srt.isort cmpC (S.take (1 + t)) ++ (S.drop (1 + t) ++ B))).map chD = l := ⟨_, rfl⟩
    rw [hl] at hend hin ⊢
    rcases Bool.eq_false_or_eq_true (decide ((Nat.cast (R := Int) i) < (Nat.cast (R := Int) b)) : Bool) with h14 | h14
    · skip
      have hrun : runSegA (cfB ts2) 1000 0 [(14, RV.d (DV.bool true))] [] [0, 1, 2, 3, 8, 9] (stackAt inC 0) (inS l (a : Int) (b : Int) (i : Int)) = some (stackAt inC 1, inJ l (a : Int) (b : Int) (i : Int) (i : Int), [], [(RV.d (DV.bool (decide ((Nat.cast (R := Int) i) < (Nat.cast (R := Int) b)))), RV.d (DV.bool true))]) := by kernel_rfl
      refine WK.segA (st := (inS l (a : Int) (b : Int) (i : Int))) (st' := inJ l (a : Int) (b : Int) (i : Int) (i : Int)) (k := (stackAt inC 0)) (k' := stackAt inC 1) ok 1000 0 _ _ _ _ _ rfl hrun trivial ⟨le_bool h14, trivial⟩ ?_
      exact hin h14
    · skip
      exact WK.fin ok 1000 0 [(14, RV.d (DV.bool false))] [] [(RV.d (DV.bool (decide ((Nat.cast (R := Int) i) < (Nat.cast (R := Int) b)))), RV.d (DV.bool false))] rfl (by kernel_rfl : runEnd (cfB ts2) false _ 1000 0 _ _ (inS l (a : Int) (b : Int) (i : Int)) = some (RV.tup [], [PObj.arr 46 4 l], _, _)) trivial ⟨le_bool h14, trivial⟩ ⟨rfl, by rw [hend h14]; rfl⟩
  rw [hT, hb, ha]
  obtain ⟨l, hl⟩ : ∃ l, (A ++ (S ++ B)).map chD = l := ⟨_, rfl⟩
  rw [hl] at hloop ⊢
  refine WK.segA ok 1000 0 [(11, RV.d (DV.int Go.IntKind.i64 (Nat.cast (R := Int) (a + 1))))] [] [0, 1, 2, 3, 8] [] [(RV.d (DV.int Go.IntKind.i64 (Go.IntKind.i64.wrap ((Nat.cast (R := Int) a) + 1))), RV.d (DV.int Go.IntKind.i64 (Nat.cast (R := Int) (a + 1))))] rfl (by kernel_rfl : runSegA (cfB ts2) 1000 0 _ _ _ _ (ini 53 [.own 0 4, .d (.int .i64 (a : Int)), .d (.int .i64 (b : Int)), cmpv] (arC l)) = some (stackAt inC 0, inS l (a : Int) (b : Int) ((a + 1 : Nat) : Int), _, _)) trivial ⟨(by exact ov_succ (by omega)), trivial⟩ ?_
  exact hloop
/-- the entry: a part is sorted -/
def insE' : Ent := fun a o => match a, o with
  | [.own 0 4, .d (.int .i64 p), .d (.int .i64 q), .clo (.func f) [] []], [.arr T 4 els] =>
    some (.tup [], [.arr T 4 (els.take p.toNat ++ ((Srt.isort cmpC ((part els p.toNat q.toNat).map toChg)).map chD ++ els.drop q.toNat))], [Nat.beq T chT, Nat.beq f 39, els.all isC, decide (0 ≤ p), decide (p ≤ q), decide (q ≤ els.length), decide (els.length ≤ 65536)])
  | _, _ => none
theorem ins_ent : EntOk Try.prog 100 insE' := by
  intro a o r o' c hg hc
  unfold insE' at hg
  split at hg
  · rename_i p q f T els
    simp only [Option.some.injEq, Prod.mk.injEq] at hg
    obtain ⟨rfl, rfl, rfl⟩ := hg
    have hT := nbE (hc (Nat.beq T chT) (by simp))
    have hF := nbE (hc (Nat.beq f 39) (by simp))
    have h1 := hc (els.all isC) (by simp)
    have h2 := of_decide_eq_true (hc (decide (0 ≤ p)) (by simp))
    have h3 := of_decide_eq_true (hc (decide (p ≤ q)) (by simp))
    have h5 := of_decide_eq_true (hc (decide (q ≤ els.length)) (by simp))
    have h6 := of_decide_eq_true (hc (decide (els.length ≤ 65536)) (by simp))
    subst hT hF
    obtain ⟨L, rfl, hLok⟩ := els_of h1 h6
    rw [List.length_map] at h5 h6
    obtain ⟨p, rfl⟩ : ∃ k : Nat, p = k := ⟨p.toNat, by omega⟩
    obtain ⟨q, rfl⟩ : ∃ k : Nat, q = k := ⟨q.toNat, by omega⟩
    have e : L = L.take p ++ (part L p q ++ L.drop q) := by rw [← parts2 L p q (by omega), List.take_append_drop]
    have l1 : (L.take p).length = p := by rw [List.length_take]; omega
    have l2 : (part L p q).length = q - p := part_len (by omega)
    have := ins_c (L.take p) (part L p q) (L.drop q) (by rw [← e]; exact hLok)
    rw [← e, l1, l2, show p + (q - p) = q by omega] at this
    simp only [Int.toNat_natCast]
    rw [part_map, unL_map, ← List.map_take, ← List.map_drop, ← List.map_append, ← List.map_append]
    exact this
  · cases hg
end Go.Proofs.Ytljfolepmkcjlaa

/-
  Plain facts about the symmetric merge: where its searches end, the two sorted parts come together. No program in sight.
-/
namespace Go.Proofs.Ytljfolepmkcjlaa.Srt
variable {α : Type} {c : α → α → Int}

theorem Pre.lt_le (P : Pre c) {a b d : α} (h1 : c a b < 0) (h2 : c b d ≤ 0) : c a d < 0 := by
  have h3 := P.trans a b d (by omega) h2
  by_cases h : c a d < 0
  · exact h
  · have h4 : c d a ≤ 0 := by rw [P.anti a d]; omega
    have h5 := P.trans b d a h2 h4
    have := P.anti b a
    omega
theorem Pre.le_lt (P : Pre c) {a b d : α} (h1 : c a b ≤ 0) (h2 : c b d < 0) : c a d < 0 := by
  have h3 := P.trans a b d h1 (by omega)
  by_cases h : c a d < 0
  · exact h
  · have h4 : c d a ≤ 0 := by rw [P.anti a d]; omega
    have h5 := P.trans d a b h4 h1
    have := P.anti d b
    omega
theorem srtB_get_le : ∀ {l : List α} {i j : Nat} {x y : α}, srtB c l = true → l[i]? = some x → l[j]? = some y → i < j → c x y ≤ 0
  | [], i, j, x, y, _, h, _, _ => by simp at h
  | z :: r, 0, j + 1, x, y, hs, h1, h2, _ => by
    simp only [List.getElem?_cons_zero, Option.some.injEq] at h1; subst h1
    rw [List.getElem?_cons_succ] at h2
    exact (srtB_cons.1 hs).1 y (List.mem_of_getElem? h2)
  | z :: r, i + 1, j + 1, x, y, hs, h1, h2, hij => by
    rw [List.getElem?_cons_succ] at h1 h2
    exact srtB_get_le (srtB_cons.1 hs).2 h1 h2 (by omega)
theorem mem_take_get {l : List α} {t : Nat} {z : α} (h : z ∈ l.take t) : ∃ i, i < t ∧ l[i]? = some z := by
  obtain ⟨i, hi⟩ := List.getElem?_of_mem h
  rw [List.getElem?_take] at hi
  split at hi
  · rename_i hit; exact ⟨i, hit, hi⟩
  · cases hi
theorem mem_drop_get {l : List α} {t : Nat} {z : α} (h : z ∈ l.drop t) : ∃ i, t ≤ i ∧ l[i]? = some z := by
  obtain ⟨i, hi⟩ := List.getElem?_of_mem h
  rw [List.getElem?_drop] at hi
  exact ⟨t + i, by omega, hi⟩
theorem srtB_take (t : Nat) {l : List α} (h : srtB c l = true) : srtB c (l.take t) = true := by
  have := h; rw [← List.take_append_drop t l] at this; exact (srtB_append.1 this).1
theorem srtB_drop (t : Nat) {l : List α} (h : srtB c l = true) : srtB c (l.drop t) = true := by
  have := h; rw [← List.take_append_drop t l] at this; exact (srtB_append.1 this).2.1

/-- all below a place that stands ahead of x stand ahead of it -/
theorem below_lt (P : Pre c) {Y : List α} {x : α} {t : Nat} (hs : srtB c Y = true) (h : t = 0 ∨ ∃ y, Y[t - 1]? = some y ∧ c y x < 0) : ∀ z ∈ Y.take t, c z x < 0 := by
  intro z hz
  obtain ⟨i, hi, hg⟩ := mem_take_get hz
  rcases h with rfl | ⟨y, hy, hyx⟩
  · omega
  · by_cases e : i = t - 1
    · subst e; rw [hy] at hg; injection hg with hg; subst hg; exact hyx
    · exact P.le_lt (srtB_get_le hs hg hy (by omega)) hyx
theorem above_ge (P : Pre c) {Y : List α} {x : α} {t : Nat} (hs : srtB c Y = true) (h : t = Y.length ∨ ∃ y, Y[t]? = some y ∧ ¬ c y x < 0) : ∀ z ∈ Y.drop t, ¬ c z x < 0 := by
  intro z hz
  obtain ⟨i, hi, hg⟩ := mem_drop_get hz
  rcases h with rfl | ⟨y, hy, hyx⟩
  · have := (List.getElem?_eq_some_iff.1 hg).1; omega
  · intro hzx
    by_cases e : i = t
    · subst e; rw [hy] at hg; injection hg with hg; subst hg; exact hyx hzx
    · exact hyx (P.le_lt (srtB_get_le hs hy hg (by omega)) hzx)
theorem below_ge (P : Pre c) {X : List α} {y : α} {t : Nat} (hs : srtB c X = true) (h : t = 0 ∨ ∃ x, X[t - 1]? = some x ∧ ¬ c y x < 0) : ∀ z ∈ X.take t, ¬ c y z < 0 := by
  intro z hz
  obtain ⟨i, hi, hg⟩ := mem_take_get hz
  rcases h with rfl | ⟨x, hx, hyx⟩
  · omega
  · intro hyz
    by_cases e : i = t - 1
    · subst e; rw [hx] at hg; injection hg with hg; subst hg; exact hyx hyz
    · exact hyx (P.lt_le hyz (srtB_get_le hs hg hx (by omega)))
theorem above_lt (P : Pre c) {X : List α} {y : α} {t : Nat} (hs : srtB c X = true) (h : t = X.length ∨ ∃ x, X[t]? = some x ∧ c y x < 0) : ∀ z ∈ X.drop t, c y z < 0 := by
  intro z hz
  obtain ⟨i, hi, hg⟩ := mem_drop_get hz
  rcases h with rfl | ⟨x, hx, hyx⟩
  · have := (List.getElem?_eq_some_iff.1 hg).1; omega
  · by_cases e : i = t
    · subst e; rw [hx] at hg; injection hg with hg; subst hg; exact hyx
    · exact P.lt_le hyx (srtB_get_le hs hx hg (by omega))
/-- one in front of a sorted part: where the search ends -/
theorem one_l_at (P : Pre c) {Y : List α} {x : α} {t : Nat} (hs : srtB c Y = true) (h1 : t = 0 ∨ ∃ y, Y[t - 1]? = some y ∧ c y x < 0) (h2 : t = Y.length ∨ ∃ y, Y[t]? = some y ∧ ¬ c y x < 0) :
    mrg c [x] Y = Y.take t ++ x :: Y.drop t := by
  have := mrg_one_l (c := c) (x := x) (below_lt P hs h1) (above_ge P hs h2)
  rwa [List.take_append_drop] at this
theorem one_r_at (P : Pre c) {X : List α} {y : α} {t : Nat} (hs : srtB c X = true) (h1 : t = 0 ∨ ∃ x, X[t - 1]? = some x ∧ ¬ c y x < 0) (h2 : t = X.length ∨ ∃ x, X[t]? = some x ∧ c y x < 0) :
    mrg c X [y] = X.take t ++ y :: X.drop t := by
  have := mrg_one_r (c := c) (y := y) (below_ge P hs h1) (above_lt P hs h2)
  rwa [List.take_append_drop] at this
/-- both parts cut where the search of the symmetric merge ends: s of the first, u of the second -/
theorem sym_at (P : Pre c) {X Y : List α} {s u : Nat} (hX : srtB c X = true) (hY : srtB c Y = true)
    (hL : s = 0 ∨ u = Y.length ∨ ∃ x y, X[s - 1]? = some x ∧ Y[u]? = some y ∧ ¬ c y x < 0)
    (hR : s = X.length ∨ u = 0 ∨ ∃ x y, X[s]? = some x ∧ Y[u - 1]? = some y ∧ c y x < 0) :
    mrg c X Y = mrg c (X.take s) (Y.take u) ++ mrg c (X.drop s) (Y.drop u) := by
  have := mrg_split c _ (X.take s) (X.drop s) (Y.take u) (Y.drop u) (Nat.le_refl _) ?_ ?_
  · rwa [List.take_append_drop, List.take_append_drop] at this
  · intro x hx y hy
    obtain ⟨i, hi, hgi⟩ := mem_take_get hx
    obtain ⟨j, hj, hgj⟩ := mem_drop_get hy
    rcases hL with rfl | rfl | ⟨x0, y0, h1, h2, h3⟩
    · omega
    · have := (List.getElem?_eq_some_iff.1 hgj).1; omega
    · have hxx : c x x0 ≤ 0 := by
        by_cases e : i = s - 1
        · subst e; rw [h1] at hgi; injection hgi with hgi; subst hgi; have := P.anti x0 x0; omega
        · exact srtB_get_le hX hgi h1 (by omega)
      have hyy : c y0 y ≤ 0 := by
        by_cases e : j = u
        · subst e; rw [h2] at hgj; injection hgj with hgj; subst hgj; have := P.anti y0 y0; omega
        · exact srtB_get_le hY h2 hgj (by omega)
      intro h
      exact h3 (P.lt_le (P.le_lt hyy h) hxx)
  · intro y hy x hx
    obtain ⟨j, hj, hgj⟩ := mem_take_get hy
    obtain ⟨i, hi, hgi⟩ := mem_drop_get hx
    rcases hR with rfl | rfl | ⟨x0, y0, h1, h2, h3⟩
    · have := (List.getElem?_eq_some_iff.1 hgi).1; omega
    · omega
    · have hxx : c x0 x ≤ 0 := by
        by_cases e : i = s
        · subst e; rw [h1] at hgi; injection hgi with hgi; subst hgi; have := P.anti x0 x0; omega
        · exact srtB_get_le hX h1 hgi (by omega)
      have hyy : c y y0 ≤ 0 := by
        by_cases e : j = u - 1
        · subst e; rw [h2] at hgj; injection hgj with hgj; subst hgj; have := P.anti y0 y0; omega
        · exact srtB_get_le hY hgj h2 (by omega)
      exact P.le_lt hyy (P.lt_le h3 hxx)
theorem mrg_length (c : α → α → Int) (X Y : List α) : (mrg c X Y).length = X.length + Y.length := by
  rw [(mrg_perm c _ X Y (Nat.le_refl _)).length_eq, List.length_append]
end Go.Proofs.Ytljfolepmkcjlaa.Srt

/-
  Plain facts about changes put together: what a list of changes comes to, key by key. No program in sight.
-/
namespace Go.Proofs.Ytljfolepmkcjlaa.Plain

/-- of one table and key -/
def keyB (a b : Chg) : Bool := decide (a.t = b.t ∧ a.k = b.k)
theorem keyB_iff {a b : Chg} : keyB a b = true ↔ a.t = b.t ∧ a.k = b.k := by simp [keyB]
theorem keyB_refl (a : Chg) : keyB a a = true := keyB_iff.2 ⟨rfl, rfl⟩
theorem keyB_symm {a b : Chg} (h : keyB a b = true) : keyB b a = true := by rw [keyB_iff] at *; exact ⟨h.1.symm, h.2.symm⟩
theorem keyB_trans {a b c : Chg} (h : keyB a b = true) (h2 : keyB b c = true) : keyB a c = true := by rw [keyB_iff] at *; exact ⟨h.1.trans h2.1, h.2.trans h2.2⟩

/-- one more change, joined with the one of its key -/
def mStep (all : List Chg) (x : Chg) : Option (List Chg) :=
  match all.findIdx? fun y => keyB y x with
  | none => some (all ++ [x])
  | some i => match all[i]? with
    | none => none
    | some y => if y.n = x.o then some (all.set i ⟨y.t, y.k, y.o, x.n⟩) else none
def mFold : List Chg → List Chg → Option (List Chg)
  | all, [] => some all
  | all, x :: r => match mStep all x with
    | none => none
    | some a => mFold a r
def live (l : List Chg) : List Chg := l.filter fun x => !decide (x.o = x.n)
/-- what changes come to, in order -/
def mrgC (l : List Chg) : List Chg × Int := match mFold [] l with
  | none => ([], 220)
  | some a => (Srt.isort cmpC (live a), 0)
/-- Merge -/
def mergeC (l : List Chg) : List Chg × Int := match mFold [] l with
  | none => ([], 220)
  | some a => if mayL (Srt.isort cmpC (live a)) then (Srt.isort cmpC (live a), 0) else ([], 2)
def concatC (a b : List Chg) : List Chg × Int := if mayL a && mayL b then mergeC (a ++ b) else ([], 2)
def invC (x : Chg) : Chg := ⟨x.t, x.k, x.n, x.o⟩
def invertC (l : List Chg) : List Chg × Int := if mayL l then (l.map invC, 0) else ([], 2)

/-- no two of one key -/
def nokey : List Chg → Prop
  | [] => True
  | x :: r => (∀ y ∈ r, keyB x y = false) ∧ nokey r
/-- the change of x's key -/
def look (x : Chg) (l : List Chg) : Option Chg := l.find? fun y => keyB y x

theorem look_nil (x : Chg) : look x [] = none := rfl
theorem look_cons (x y : Chg) (l : List Chg) : look x (y :: l) = if keyB y x = true then some y else look x l := by
  simp only [look, List.find?_cons]
  cases keyB y x <;> rfl
theorem look_append (x : Chg) : ∀ (a b : List Chg), look x (a ++ b) = match look x a with | some y => some y | none => look x b
  | [], b => rfl
  | y :: a, b => by
    rw [List.cons_append, look_cons, look_cons, look_append x a b]
    by_cases h : keyB y x = true
    · simp [h]
    · simp [h]
theorem look_mem {x y : Chg} {l : List Chg} (h : look x l = some y) : y ∈ l := List.mem_of_find?_eq_some h
theorem look_key {x y : Chg} {l : List Chg} (h : look x l = some y) : keyB y x = true := by
  have := List.find?_some h; simpa using this
theorem look_none {x : Chg} {l : List Chg} : look x l = none ↔ ∀ y ∈ l, keyB y x = false := by
  simp [look, List.find?_eq_none]
theorem look_congr {x z : Chg} (h : keyB x z = true) (l : List Chg) : look x l = look z l := by
  rw [keyB_iff] at h
  simp only [look, keyB, h.1, h.2]
theorem look_self {l : List Chg} (hn : nokey l) {x : Chg} (hx : x ∈ l) : look x l = some x := by
  induction l with
  | nil => simp at hx
  | cons y r ih =>
    rw [look_cons]
    rcases List.mem_cons.1 hx with rfl | hx
    · rw [if_pos (keyB_refl _)]
    · rw [if_neg (by simp [hn.1 x hx]), ih hn.2 hx]
theorem look_of {l : List Chg} (hn : nokey l) {x y : Chg} (hy : y ∈ l) (hk : keyB y x = true) : look x l = some y := by
  rw [← look_congr hk]; exact look_self hn hy
theorem nokey_append : ∀ {a b : List Chg}, nokey (a ++ b) ↔ nokey a ∧ nokey b ∧ ∀ x ∈ a, ∀ y ∈ b, keyB x y = false
  | [], b => by simp [nokey]
  | x :: a, b => by
    simp only [List.cons_append, nokey, nokey_append (a := a) (b := b), List.mem_append, List.mem_cons]
    constructor
    · rintro ⟨h1, h2, h3, h4⟩
      refine ⟨⟨fun y hy => h1 y (.inl hy), h2⟩, h3, ?_⟩
      rintro z (rfl | hz) y hy
      · exact h1 y (.inr hy)
      · exact h4 z hz y hy
    · rintro ⟨⟨h1, h2⟩, h3, h4⟩
      refine ⟨?_, h2, h3, fun z hz y hy => h4 z (.inr hz) y hy⟩
      rintro y (hy | hy)
      · exact h1 y hy
      · exact h4 x (.inl rfl) y hy
theorem nokey_perm {a b : List Chg} (h : a.Perm b) : nokey a → nokey b := by
  induction h with
  | nil => exact id
  | cons x hp ih => exact fun hn => ⟨fun y hy => hn.1 y (hp.mem_iff.2 hy), ih hn.2⟩
  | swap x y l =>
    rintro ⟨h1, h2, h3⟩
    refine ⟨fun z hz => ?_, fun z hz => h1 z (by simp [hz]), h3⟩
    rcases List.mem_cons.1 hz with rfl | hz
    · have := h1 x (by simp)
      cases e : keyB x z with
      | false => rfl
      | true => rw [keyB_symm e] at this; cases this
    · exact h2 z hz
  | trans _ _ ih1 ih2 => exact fun hn => ih2 (ih1 hn)
theorem nokey_filter (p : Chg → Bool) : ∀ {l : List Chg}, nokey l → nokey (l.filter p)
  | [], _ => trivial
  | x :: r, h => by
    rw [List.filter_cons]
    split
    · exact ⟨fun y hy => h.1 y (List.mem_filter.1 hy).1, nokey_filter p h.2⟩
    · exact nokey_filter p h.2
theorem nokey_sorted : ∀ {l : List Chg}, (∀ c ∈ l, rowOk c.k) → sorted l → nokey l
  | [], _, _ => trivial
  | x :: r, ho, hs => ⟨fun y hy => by
      cases e : keyB x y with
      | false => rfl
      | true =>
        have h := hs.1 y hy
        rw [keyB_iff] at e
        rw [cmpC_of e.1 e.2] at h; omega, nokey_sorted (fun c hc => ho c (by simp [hc])) hs.2⟩

/-! ### The order as one for sorting -/
theorem cmpS_le_trans {x y z : Bs} (e1 : cmpS x y ≤ 0) (e2 : cmpS y z ≤ 0) : cmpS x z ≤ 0 ∧ (cmpS x z = 0 → cmpS x y = 0 ∧ cmpS y z = 0) := by
  by_cases f1 : cmpS x y = 0
  · have := cmpS_eq f1; subst this
    exact ⟨e2, fun h => ⟨f1, h⟩⟩
  · by_cases f2 : cmpS y z = 0
    · have := cmpS_eq f2; subst this
      exact ⟨e1, fun h => ⟨h, f2⟩⟩
    · have := cmpS_trans (show cmpS x y < 0 by omega) (show cmpS y z < 0 by omega)
      exact ⟨by omega, fun h => by omega⟩
theorem cmpV_le_trans {a b c : Val} (h1 : cmpV a b ≤ 0) (h2 : cmpV b c ≤ 0) : cmpV a c ≤ 0 ∧ (cmpV a c = 0 → cmpV a b = 0 ∧ cmpV b c = 0) := by
  unfold cmpV at *
  by_cases x1 : a.k < b.k
  · by_cases x2 : b.k > c.k
    · rw [if_neg (by omega), if_pos x2] at h2; omega
    · rw [if_pos (show a.k < c.k by omega)]; exact ⟨by omega, fun h => by omega⟩
  · rw [if_neg x1] at h1 ⊢
    by_cases x2 : a.k > b.k
    · rw [if_pos x2] at h1; omega
    · rw [if_neg x2] at h1 ⊢
      by_cases y1 : b.k < c.k
      · rw [if_pos (show a.k < c.k by omega)]; exact ⟨by omega, fun h => by omega⟩
      · rw [if_neg y1] at h2 ⊢
        by_cases y2 : b.k > c.k
        · rw [if_pos y2] at h2; omega
        · rw [if_neg y2] at h2 ⊢
          rw [if_neg (show ¬ a.k < c.k by omega), if_neg (show ¬ a.k > c.k by omega)]
          have e : b.k = a.k := by omega
          rw [e] at h2 ⊢
          by_cases z1 : a.k = 1
          · simp only [if_pos z1] at *
            unfold cmpI at *
            split at h1 <;> split at h2 <;> (try split at h1) <;> (try split at h2) <;> first | omega | (split <;> (try split) <;> constructor <;> (try intro) <;> (try split) <;> (try split) <;> omega)
          · simp only [if_neg z1] at *
            by_cases z2 : a.k = 2 ∨ a.k = 3
            · simp only [if_pos z2] at *
              exact cmpS_le_trans h1 h2
            · simp only [if_neg z2] at *
              exact ⟨by omega, fun _ => ⟨trivial, trivial⟩⟩
theorem cmpR_le_trans : ∀ {a b c : List Val}, cmpR a b ≤ 0 → cmpR b c ≤ 0 → cmpR a c ≤ 0 ∧ (cmpR a c = 0 → cmpR a b = 0 ∧ cmpR b c = 0)
  | [], [], [], _, _ => ⟨by simp [cmpR], fun _ => ⟨rfl, rfl⟩⟩
  | [], [], _ :: _, _, _ => ⟨by simp [cmpR], fun h => by simp [cmpR] at h⟩
  | [], _ :: _, [], _, h => by simp [cmpR] at h
  | [], _ :: _, _ :: _, _, _ => ⟨by simp [cmpR], fun h => by simp [cmpR] at h⟩
  | _ :: _, [], _, h, _ => by simp [cmpR] at h
  | _ :: _, _ :: _, [], _, h => by simp [cmpR] at h
  | a :: r, b :: q, c :: p, h1, h2 => by
    have ih := @cmpR_le_trans r q p
    simp only [cmpR] at *
    have e1 : cmpV a b ≤ 0 := by split at h1 <;> omega
    have e2 : cmpV b c ≤ 0 := by split at h2 <;> omega
    obtain ⟨v1, v2⟩ := cmpV_le_trans e1 e2
    by_cases h : cmpV a c = 0
    · obtain ⟨f1, f2⟩ := v2 h
      rw [if_pos f1] at h1 ⊢
      rw [if_pos f2] at h2 ⊢
      rw [if_pos h]
      exact ih h1 h2
    · rw [if_neg h]
      exact ⟨v1, fun h3 => absurd h3 h⟩
theorem cmpC_le_trans {a b c : Chg} (h1 : cmpC a b ≤ 0) (h2 : cmpC b c ≤ 0) : cmpC a c ≤ 0 := by
  unfold cmpC at *
  have e1 : cmpS a.t b.t ≤ 0 := by split at h1 <;> omega
  have e2 : cmpS b.t c.t ≤ 0 := by split at h2 <;> omega
  obtain ⟨v1, v2⟩ := cmpS_le_trans e1 e2
  by_cases h : cmpS a.t c.t = 0
  · obtain ⟨f1, f2⟩ := v2 h
    rw [if_pos f1] at h1
    rw [if_pos f2] at h2
    rw [if_pos h]
    exact (cmpR_le_trans h1 h2).1
  · rw [if_neg h]; exact v1
theorem preC : Srt.Pre cmpC := ⟨cmpC_anti, fun _ _ _ => cmpC_le_trans⟩
/-- no two of one rank -/
def distB : List Chg → Bool
  | [] => true
  | x :: r => r.all (fun y => !decide (cmpC x y = 0)) && distB r
theorem distB_cons {x : Chg} {r : List Chg} : distB (x :: r) = true ↔ (∀ y ∈ r, cmpC x y ≠ 0) ∧ distB r = true := by
  simp [distB, List.all_eq_true]
theorem distB_uniq : ∀ {l : List Chg}, distB l = true → ∀ x ∈ l, ∀ y ∈ l, cmpC x y = 0 → x = y
  | z :: r, h, x, hx, y, hy, e => by
    obtain ⟨h1, h2⟩ := distB_cons.1 h
    rcases List.mem_cons.1 hx with ex | hx'
    · rcases List.mem_cons.1 hy with ey | hy'
      · rw [ex, ey]
      · exact absurd (ex ▸ e) (h1 y hy')
    · rcases List.mem_cons.1 hy with ey | hy'
      · exact absurd (by rw [cmpC_anti, ← ey]; omega) (h1 x hx')
      · exact distB_uniq h2 x hx' y hy' e
theorem distB_nokey : ∀ {l : List Chg}, (∀ c ∈ l, rowOk c.k) → nokey l → distB l = true
  | [], _, _ => rfl
  | x :: r, ho, hn => distB_cons.2 ⟨fun y hy e => by
      have := cmpC_eq (ho x (by simp)) (ho y (by simp [hy])) e
      have h2 := hn.1 y hy
      (rw [keyB_iff.2 this] at h2; cases h2), distB_nokey (fun c hc => ho c (by simp [hc])) hn.2⟩
/-- Sorted and of no two of one rank: one stands ahead of all behind it. -/
theorem sorted_of : ∀ {l : List Chg}, Srt.srtB cmpC l = true → distB l = true → sorted l
  | [], _, _ => trivial
  | x :: r, h, hd => by
    obtain ⟨h1, h2⟩ := Srt.srtB_cons.1 h
    obtain ⟨d1, d2⟩ := distB_cons.1 hd
    exact ⟨fun y hy => by have := h1 y hy; have := d1 y hy; omega, sorted_of h2 d2⟩
theorem srtB_of : ∀ {l : List Chg}, sorted l → Srt.srtB cmpC l = true
  | [], _ => rfl
  | x :: r, h => Srt.srtB_cons.2 ⟨fun y hy => by have := h.1 y hy; omega, srtB_of h.2⟩
theorem isort_uniq {a b : List Chg} (hs : Srt.srtB cmpC a = true) (hp : a.Perm b) (hd : distB b = true) : a = Srt.isort cmpC b := by
  obtain ⟨h1, h2⟩ := Srt.isort_ok preC b
  refine Srt.sorted_unique preC hs h1 (hp.trans h2.symm) ?_
  intro x hx y hy
  exact distB_uniq hd x (hp.mem_iff.1 hx) y (hp.mem_iff.1 hy)
end Go.Proofs.Ytljfolepmkcjlaa.Plain

/-
  The symmetric merge, run.
-/
namespace Go.Proofs.Ytljfolepmkcjlaa
open Go.RowKit Plain Am IntWalk
set_option maxRecDepth 100000
set_option linter.unusedVariables false
set_option linter.unusedSimpArgs false

noncomputable abbrev syC : Code := bodyOf Try.f101
def sy1 (l : List DV) (a i j : Int) : ESt := { n := 220, m := 1, regs := T.mk [(0, .own 0 4), (1, .d (.int .i64 a)), (4, cmpv), (10, .d (.int .i64 i)), (11, .d (.int .i64 j))], objs := T.mk [(0, .arr 46 4 l)] }
def sy1u (l : List DV) (e i : Int) : ESt := { n := 220, m := 1, regs := T.mk [(0, .own 0 4), (10, .d (.int .i64 e)), (13, .d (.int .i64 i))], objs := T.mk [(0, .arr 46 4 l)] }
def sy2 (l : List DV) (m i j : Int) : ESt := { n := 220, m := 1, regs := T.mk [(0, .own 0 4), (2, .d (.int .i64 m)), (4, cmpv), (14, .d (.int .i64 i)), (15, .d (.int .i64 j))], objs := T.mk [(0, .arr 46 4 l)] }
def sy2d (l : List DV) (e i : Int) : ESt := { n := 220, m := 1, regs := T.mk [(0, .own 0 4), (14, .d (.int .i64 e)), (17, .d (.int .i64 i))], objs := T.mk [(0, .arr 46 4 l)] }
def sy3 (l : List DV) (a m b mid n i j p : Int) : ESt := { n := 220, m := 1, regs := T.mk [(0, .own 0 4), (1, .d (.int .i64 a)), (2, .d (.int .i64 m)), (3, .d (.int .i64 b)), (4, cmpv), (18, .d (.int .i64 mid)), (19, .d (.int .i64 n)), (20, .d (.int .i64 i)), (21, .d (.int .i64 j)), (22, .d (.int .i64 p))], objs := T.mk [(0, .arr 46 4 l)] }
/-- two sorted parts are merged -/
def symL (els : List DV) (p m q : Nat) : List DV := els.take p ++ ((Srt.mrg cmpC ((part els p m).map toChg) ((part els m q).map toChg)).map chD ++ els.drop q)
def srtP (els : List DV) (p m : Nat) : Bool := Srt.srtB cmpC ((part els p m).map toChg)
def symE (N : Nat) : Ent := fun a o => match a, o with
  | [.own 0 4, .d (.int .i64 p), .d (.int .i64 m), .d (.int .i64 q), .clo (.func f) [] []], [.arr T 4 els] =>
    some (.tup [], [.arr T 4 (symL els p.toNat m.toNat q.toNat)], [Nat.beq T chT, Nat.beq f 39, els.all isC, decide (0 ≤ p), decide (p < m), decide (m < q), decide (q ≤ els.length), decide (els.length ≤ 65536), srtP els p.toNat m.toNat, srtP els m.toNat q.toNat, decide (q - p < N)])
  | _, _ => none
noncomputable def ts3 (N : Nat) : List (Nat × Ent) := [(39, e2 ccG), (104, roE), (101, symE N)]
abbrev EndsY (l : List DV) : SSt → Prop := EndsB (Try.f101.results.toList) l
theorem ov_half {i j k : Nat} (h : (i + j) / 2 = k) (hb : i + j ≤ 1000000) : RVle (.d (.int .i64 (IntKind.i64.wrap ((IntKind.u64.wrap (IntKind.i64.wrap ((Nat.cast (R := Int) i) + (Nat.cast (R := Int) j)))).fdiv 2)))) (.d (.int .i64 (Nat.cast (R := Int) k))) := .of_eq (by
  rw [i64_in ((Nat.cast (R := Int) i) + (Nat.cast (R := Int) j)) (by omega), IntWalk.u64_in _ (by omega), Int.fdiv_eq_ediv_of_nonneg _ (by omega), i64_in _ (by omega)]
  congr 2; omega)
theorem ov_dec {i k : Nat} (h : k + 1 = i) (hb : i ≤ 1000000) : RVle (.d (.int .i64 (IntKind.i64.wrap ((Nat.cast (R := Int) i) - 1)))) (.d (.int .i64 (Nat.cast (R := Int) k))) := .of_eq (by
  rw [i64_in _ (by omega)]; congr 2; omega)
theorem ov_sub {i j k : Nat} (h : k + j = i) (hb : i ≤ 1000000) : RVle (.d (.int .i64 (IntKind.i64.wrap ((Nat.cast (R := Int) i) - (Nat.cast (R := Int) j))))) (.d (.int .i64 (Nat.cast (R := Int) k))) := .of_eq (by
  rw [i64_in _ (by omega)]; congr 2; omega)
theorem ov_add {i j k : Nat} (h : i + j = k) (hb : k ≤ 1000000) : RVle (.d (.int .i64 (IntKind.i64.wrap ((Nat.cast (R := Int) i) + (Nat.cast (R := Int) j))))) (.d (.int .i64 (Nat.cast (R := Int) k))) := .of_eq (by
  rw [i64_in _ (by omega)]; congr 2; omega)
theorem ov_is1 {i j : Nat} {b : Bool} (h : decide (i = j + 1) = b) (hb : i ≤ 1000000) (hj : j ≤ i) : RVle (.d (.bool (IntKind.i64.wrap ((Nat.cast (R := Int) i) - (Nat.cast (R := Int) j)) == 1))) (.d (.bool b)) := by
  refine le_bool ?_
  rw [i64_in _ (by omega), ← h, Bool.eq_iff_iff, beq_iff_eq, decide_eq_true_iff]; omega
theorem get_in {α : Type} (A X R : List α) {k : Nat} (h1 : A.length ≤ k) (h2 : k < A.length + X.length) : (A ++ (X ++ R))[k]? = X[k - A.length]? := by
  rw [List.getElem?_append_right h1, List.getElem?_append_left (by omega)]
theorem symL_eq (A U V R : List Chg) {p m q : Nat} (hp : p = A.length) (hm : m = p + U.length) (hq : q = m + V.length) : symL ((A ++ (U ++ (V ++ R))).map chD) p m q = (A ++ (Srt.mrg cmpC U V ++ R)).map chD := by
  unfold symL
  have h1 : part (A ++ (U ++ (V ++ R))) p m = U := part_eq A U _ p m hp (by omega)
  have h2 : part (A ++ (U ++ (V ++ R))) m q = V := by
    rw [← List.append_assoc]; exact part_eq (A ++ U) V _ _ _ (by simp; omega) (by simp; omega)
  have h3 : (A ++ (U ++ (V ++ R))).drop q = R := by
    rw [← List.append_assoc, ← List.append_assoc]; exact List.drop_left' (by simp; omega)
  rw [part_map, part_map, unL_map, unL_map, h1, h2, ← List.map_take, ← List.map_drop, h3, List.take_left' hp.symm, List.map_append, List.map_append]
theorem srtP_eq (A U R : List Chg) {p m : Nat} (hp : p = A.length) (hm : m = p + U.length) : srtP ((A ++ (U ++ R)).map chD) p m = Srt.srtB cmpC U := by
  unfold srtP
  rw [part_map, unL_map, part_eq A U R p m hp (by omega)]
theorem rotL_eq (A X1 X2 Y1 R : List Chg) {i m e : Nat} (hi : i = A.length + X1.length) (hm : m = i + X2.length) (he : e = m + Y1.length) :
    rotL ((A ++ (X1 ++ (X2 ++ (Y1 ++ R)))).map chD) i m e = (A ++ (X1 ++ (Y1 ++ (X2 ++ R)))).map chD := by
  rw [rotL_map]
  congr 1
  unfold rotL
  have e0 : A ++ (X1 ++ (X2 ++ (Y1 ++ R))) = (A ++ X1) ++ (X2 ++ (Y1 ++ R)) := by simp
  have h1 : part ((A ++ X1) ++ (X2 ++ (Y1 ++ R))) i m = X2 := part_eq _ X2 _ i m (by simp; omega) (by simp; omega)
  have h2 : part ((A ++ X1) ++ (X2 ++ (Y1 ++ R))) m e = Y1 := by
    rw [← List.append_assoc]; exact part_eq (A ++ X1 ++ X2) Y1 _ _ _ (by simp; omega) (by simp; omega)
  have h3 : ((A ++ X1) ++ (X2 ++ (Y1 ++ R))).drop e = R := by
    rw [← List.append_assoc, ← List.append_assoc]; exact List.drop_left' (by simp; omega)
  rw [e0, h1, h2, h3, List.take_left' (by simp; omega)]
  simp only [List.append_assoc]
theorem okL_perm {a b : List Chg} (h : okL a) (hp : b.Perm a) : okL b := ⟨by rw [hp.length_eq]; exact h.1, fun c hc => h.2 c (hp.mem_iff.1 hc)⟩

/-- the first is moved behind t others -/
theorem sy_up {N : Nat} (hent : EntsOk Try.prog (ts3 N)) (A : List Chg) (x : Chg) (Z : List Chg) (t : Nat) (ht : t ≤ Z.length) (hok : okL (A ++ x :: Z)) :
    WK Try.prog 1 (stackAt syC 1) (sy1u ((A ++ x :: Z).map chD) ((A.length + 1 + t : Nat) : Int) (A.length : Int)).den (EndsY ((A ++ (Z.take t ++ x :: Z.drop t)).map chD)) := by
  have ok := cfB_ok hent
  obtain ⟨a, ha⟩ : ∃ a, A.length = a := ⟨_, rfl⟩
  obtain ⟨T, hT⟩ : ∃ T, (A ++ (Z.take t ++ x :: Z.drop t)).map chD = T := ⟨_, rfl⟩
  obtain ⟨e, he⟩ : ∃ e, a + 1 + t = e := ⟨_, rfl⟩
  have hlen : a + (Z.length + 1) ≤ 65536 := by have := hok.1; simp only [List.length_append, List.length_cons] at this; omega
  rw [hT, ha, he]
  have key := WK.rec' (P := Try.prog) (m := 1) (k := stackAt syC 1) (Q := EndsY T) (fun (s : Nat) => sy1u ((A ++ (Z.take s ++ x :: Z.drop s)).map chD) (e : Int) ((a + s : Nat) : Int)) (fun s => s ≤ t) (fun s => t - s) ?_ 0 (Nat.zero_le _)
  · simpa using key
  intro s hs ih
  obtain ⟨i, hi⟩ : ∃ i, a + s = i := ⟨_, rfl⟩
  obtain ⟨r, hr⟩ : ∃ r, a + t = r := ⟨_, rfl⟩
  rw [hi]
  by_cases hlt : s < t
  · obtain ⟨y, hy⟩ : ∃ y, Z[s]'(by omega) = y := ⟨_, rfl⟩
    have ey : Z.drop s = y :: Z.drop (s + 1) := by rw [List.drop_eq_getElem_cons (by omega), hy]
    have ty : Z.take (s + 1) = Z.take s ++ [y] := by rw [List.take_add_one, List.getElem?_eq_getElem (by omega), hy]; rfl
    have lt : (Z.take s).length = s := by rw [List.length_take]; omega
    have hnx := ih (s + 1) hlt (by omega)
    rw [show a + (s + 1) = i + 1 by omega] at hnx
    have e0 : A ++ (Z.take s ++ x :: Z.drop s) = (A ++ Z.take s) ++ x :: (y :: Z.drop (s + 1)) := by rw [ey]; simp
    have gx : ((A ++ Z.take s) ++ x :: (y :: Z.drop (s + 1)))[i]? = some x := get_mid _ _ _ _ (by simp; omega)
    have gy : ((A ++ Z.take s) ++ x :: (y :: Z.drop (s + 1)))[i + 1]? = some y := by
      have := get_mid ((A ++ Z.take s) ++ [x]) y (Z.drop (s + 1)) (i + 1) (by simp; omega)
      simpa using this
    have es : (((A ++ Z.take s) ++ x :: (y :: Z.drop (s + 1))).set i y).set (i + 1) x = A ++ (Z.take (s + 1) ++ x :: Z.drop (s + 1)) := by
      rw [set_mid _ _ _ _ _ (by simp; omega)]
      have := set_mid ((A ++ Z.take s) ++ [y]) y x (Z.drop (s + 1)) (i + 1) (by simp; omega)
      rw [ty]
      simpa using this
    rw [← es] at hnx
    rw [e0]
    have hll : ((A ++ Z.take s) ++ x :: (y :: Z.drop (s + 1))).length ≤ 65536 := by
      simp only [List.length_append, List.length_cons, lt, List.length_drop]; omega
    generalize ((A ++ Z.take s) ++ x :: (y :: Z.drop (s + 1))) = L at *
    have hlj := lt_of_some gy
    have hml : (L.map chD).length = L.length := List.length_map ..
    rcases Bool.eq_false_or_eq_true (decide ((Nat.cast (R := Int) i) < (Nat.cast (R := Int) r)) : Bool) with h58 | h58
    · skip
      refine WK.segA ok 1000 0 [(57, RV.d (DV.int Go.IntKind.i64 (Nat.cast (R := Int) r))), (65, RV.d (DV.int Go.IntKind.i64 (Nat.cast (R := Int) (i + 1)))), (68, RV.d (DV.int Go.IntKind.i64 (Nat.cast (R := Int) (i + 1)))), (70, RV.d (DV.agg [DV.str y.1, DV.lst 3 (List.map vD y.2) false, DV.lst 3 (List.map vD y.3) false, DV.lst 3 (List.map vD y.4) false])), (74, RV.d (DV.agg [DV.str x.1, DV.lst 3 (List.map vD x.2) false, DV.lst 3 (List.map vD x.3) false, DV.lst 3 (List.map vD x.4) false])), (60, RV.d (DV.int Go.IntKind.i64 (Nat.cast (R := Int) (i + 1)))), (58, RV.d (DV.bool true))] [] [0, 10, 13] [decide (0 ≤ (Nat.cast (R := Int) (i + 1)) ∧ (Nat.cast (R := Int) (i + 1)) < (Nat.cast (R := Int) (L.map chD).length)), decide ((Nat.cast (R := Int) (i + 1)).toNat < (L.map chD).length), Nat.ble 4 ((L.map chD).getD (Nat.cast (R := Int) (i + 1)).toNat DV.nilp).cells.length, decide (0 ≤ (Nat.cast (R := Int) i) ∧ (Nat.cast (R := Int) i) < (Nat.cast (R := Int) (L.map chD).length)), decide ((Nat.cast (R := Int) i).toNat < (L.map chD).length), Nat.ble 4 ((L.map chD).getD (Nat.cast (R := Int) i).toNat DV.nilp).cells.length, decide (0 ≤ (Nat.cast (R := Int) i) ∧ (Nat.cast (R := Int) i) < (Nat.cast (R := Int) (L.map chD).length)), decide ((Nat.cast (R := Int) i).toNat < (L.map chD).length), decide (0 ≤ (Nat.cast (R := Int) (i + 1)) ∧ (Nat.cast (R := Int) (i + 1)) < (Nat.cast (R := Int) ((L.map chD).set (Nat.cast (R := Int) i).toNat (chD y)).length)), decide ((Nat.cast (R := Int) (i + 1)).toNat < ((L.map chD).set (Nat.cast (R := Int) i).toNat (chD y)).length)] [(RV.d (DV.int Go.IntKind.i64 (Go.IntKind.i64.wrap ((Nat.cast (R := Int) e) - 1))), RV.d (DV.int Go.IntKind.i64 (Nat.cast (R := Int) r))), (RV.d (DV.bool (decide ((Nat.cast (R := Int) i) < (Nat.cast (R := Int) r)))), RV.d (DV.bool true)), (RV.d (DV.int Go.IntKind.i64 (Go.IntKind.i64.wrap ((Nat.cast (R := Int) i) + 1))), RV.d (DV.int Go.IntKind.i64 (Nat.cast (R := Int) (i + 1)))), (RV.d (DV.int Go.IntKind.i64 (Go.IntKind.i64.wrap ((Nat.cast (R := Int) i) + 1))), RV.d (DV.int Go.IntKind.i64 (Nat.cast (R := Int) (i + 1)))), (RV.d (DV.agg (List.take 4 (List.drop 0 ((L.map chD).getD (Nat.cast (R := Int) (i + 1)).toNat DV.nilp).cells))), RV.d (DV.agg [DV.str y.1, DV.lst 3 (List.map vD y.2) false, DV.lst 3 (List.map vD y.3) false, DV.lst 3 (List.map vD y.4) false])), (RV.d (DV.agg (List.take 4 (List.drop 0 ((L.map chD).getD (Nat.cast (R := Int) i).toNat DV.nilp).cells))), RV.d (DV.agg [DV.str x.1, DV.lst 3 (List.map vD x.2) false, DV.lst 3 (List.map vD x.3) false, DV.lst 3 (List.map vD x.4) false])), (RV.d (DV.int Go.IntKind.i64 (Go.IntKind.i64.wrap ((Nat.cast (R := Int) i) + 1))), RV.d (DV.int Go.IntKind.i64 (Nat.cast (R := Int) (i + 1))))] rfl (by kernel_rfl : runSegA (cfB (ts3 N)) 1000 0 _ _ _ _ (sy1u (L.map chD) (e : Int) (i : Int)) = some (stackAt syC 1, sy1u (((L.map chD).set (Nat.cast (R := Int) i).toNat (DV.agg [DV.str y.1, DV.lst 3 (List.map vD y.2) false, DV.lst 3 (List.map vD y.3) false, DV.lst 3 (List.map vD y.4) false])).set (Nat.cast (R := Int) (i + 1)).toNat (DV.agg [DV.str x.1, DV.lst 3 (List.map vD x.2) false, DV.lst 3 (List.map vD x.3) false, DV.lst 3 (List.map vD x.4) false])) (e : Int) ((i + 1 : Nat) : Int), _, _)) (by refine ⟨?_, ?_, ?_, ?_, ?_, ?_, ?_, ?_, ?_, ?_, trivial⟩ <;> (first | exact bd_in gy | exact bd_in2 gy | exact bd_ble gy | exact bd_in gx | exact bd_in2 gx | exact bd_ble gx | (refine decide_eq_true ?_; simp only [Int.toNat_natCast, List.length_set, List.length_map]; omega))) (by refine ⟨?_, le_bool h58, ?_, ?_, ?_, ?_, ?_, trivial⟩ <;> (first | exact le_bool (decide_eq_true (by omega)) | exact ov_load gx | exact ov_load gy | exact ov_succ (by omega) | exact ov_dec (by omega) (by omega))) ?_
      show WK Try.prog 1 (stackAt syC 1) (sy1u (((L.map chD).set (i : Int).toNat (chD y)).set ((i + 1 : Nat) : Int).toNat (chD x)) (e : Int) ((i + 1 : Nat) : Int)).den _
      rw [Int.toNat_natCast, Int.toNat_natCast, map_set', map_set']
      exact hnx
    · skip
      exact WK.fin ok 1000 0 [(57, RV.d (DV.int Go.IntKind.i64 (Nat.cast (R := Int) r))), (65, RV.d (DV.int Go.IntKind.i64 (Nat.cast (R := Int) (i + 1)))), (68, RV.d (DV.int Go.IntKind.i64 (Nat.cast (R := Int) (i + 1)))), (70, RV.d (DV.agg [DV.str y.1, DV.lst 3 (List.map vD y.2) false, DV.lst 3 (List.map vD y.3) false, DV.lst 3 (List.map vD y.4) false])), (74, RV.d (DV.agg [DV.str x.1, DV.lst 3 (List.map vD x.2) false, DV.lst 3 (List.map vD x.3) false, DV.lst 3 (List.map vD x.4) false])), (60, RV.d (DV.int Go.IntKind.i64 (Nat.cast (R := Int) (i + 1)))), (58, RV.d (DV.bool false))] [] [(RV.d (DV.int Go.IntKind.i64 (Go.IntKind.i64.wrap ((Nat.cast (R := Int) e) - 1))), RV.d (DV.int Go.IntKind.i64 (Nat.cast (R := Int) r))), (RV.d (DV.bool (decide ((Nat.cast (R := Int) i) < (Nat.cast (R := Int) r)))), RV.d (DV.bool false))] rfl (by kernel_rfl : runEnd (cfB (ts3 N)) false _ 1000 0 _ _ (sy1u (L.map chD) (e : Int) (i : Int)) = some (RV.tup [], [PObj.arr 46 4 (L.map chD)], _, _)) trivial ⟨(by first | exact le_bool (decide_eq_true (by omega)) | exact ov_load gx | exact ov_load gy | exact ov_succ (by omega) | exact ov_dec (by omega) (by omega)), le_bool h58, trivial⟩ (by exfalso; have := of_decide_eq_false h58; omega)
  · have hst : s = t := by omega
    rw [hst, hT]
    exact WK.fin ok 1000 0 [(57, .d (.int .i64 (r : Int))), (58, .d (.bool false))] [] [(.d (.int .i64 (IntKind.i64.wrap ((e : Int) - 1))), .d (.int .i64 (r : Int))), (.d (.bool (decide ((Nat.cast (R := Int) i) < (Nat.cast (R := Int) r)))), .d (.bool false))] rfl (by kernel_rfl : runEnd (cfB (ts3 N)) false _ 1000 0 _ _ (sy1u T (e : Int) (i : Int)) = some (.tup [], arC T, _, _)) trivial ⟨ov_dec (by omega) (by omega), le_bool (decide_eq_false (by omega)), trivial⟩ ⟨rfl, rfl⟩
/-- the last is moved ahead, behind t others -/
theorem sy_down {N : Nat} (hent : EntsOk Try.prog (ts3 N)) (A X : List Chg) (y : Chg) (R : List Chg) (t : Nat) (ht : t ≤ X.length) (hok : okL (A ++ (X ++ y :: R))) :
    WK Try.prog 1 (stackAt syC 3) (sy2d ((A ++ (X ++ y :: R)).map chD) ((A.length + t : Nat) : Int) ((A.length + X.length : Nat) : Int)).den (EndsY ((A ++ (X.take t ++ y :: (X.drop t ++ R))).map chD)) := by
  have ok := cfB_ok hent
  obtain ⟨a, ha⟩ : ∃ a, A.length = a := ⟨_, rfl⟩
  obtain ⟨T, hT⟩ : ∃ T, (A ++ (X.take t ++ y :: (X.drop t ++ R))).map chD = T := ⟨_, rfl⟩
  obtain ⟨e, he⟩ : ∃ e, a + t = e := ⟨_, rfl⟩
  have hlen : a + (X.length + (R.length + 1)) ≤ 65536 := by have := hok.1; simp only [List.length_append, List.length_cons] at this; omega
  rw [hT, ha, he]
  have key := WK.rec' (P := Try.prog) (m := 1) (k := stackAt syC 3) (Q := EndsY T) (fun (s : Nat) => sy2d ((A ++ (X.take s ++ y :: (X.drop s ++ R))).map chD) (e : Int) ((a + s : Nat) : Int)) (fun s => t ≤ s ∧ s ≤ X.length) (fun s => s - t) ?_ X.length ⟨ht, Nat.le_refl _⟩
  · simpa using key
  rintro s ⟨hs1, hs2⟩ ih
  obtain ⟨i, hi⟩ : ∃ i, a + s = i := ⟨_, rfl⟩
  rw [hi]
  by_cases hlt : t < s
  · obtain ⟨s', rfl⟩ : ∃ s', s = s' + 1 := ⟨s - 1, by omega⟩
    obtain ⟨k, hk⟩ : ∃ k, a + s' = k := ⟨_, rfl⟩
    obtain ⟨x, hx⟩ : ∃ x, X[s']'(by omega) = x := ⟨_, rfl⟩
    have ex : X.drop s' = x :: X.drop (s' + 1) := by rw [List.drop_eq_getElem_cons (by omega), hx]
    have tx : X.take (s' + 1) = X.take s' ++ [x] := by rw [List.take_add_one, List.getElem?_eq_getElem (by omega), hx]; rfl
    have lt : (X.take s').length = s' := by rw [List.length_take]; omega
    have hnx := ih s' ⟨by omega, by omega⟩ (by omega)
    rw [hk] at hnx
    have e0 : A ++ (X.take (s' + 1) ++ y :: (X.drop (s' + 1) ++ R)) = (A ++ X.take s') ++ x :: (y :: (X.drop (s' + 1) ++ R)) := by rw [tx]; simp
    have gx : ((A ++ X.take s') ++ x :: (y :: (X.drop (s' + 1) ++ R)))[k]? = some x := get_mid _ _ _ _ (by simp; omega)
    have gy : ((A ++ X.take s') ++ x :: (y :: (X.drop (s' + 1) ++ R)))[i]? = some y := by
      have := get_mid ((A ++ X.take s') ++ [x]) y (X.drop (s' + 1) ++ R) i (by simp; omega)
      simpa using this
    have es : (((A ++ X.take s') ++ x :: (y :: (X.drop (s' + 1) ++ R))).set i x).set k y = A ++ (X.take s' ++ y :: (X.drop s' ++ R)) := by
      have h1 : ((A ++ X.take s') ++ x :: (y :: (X.drop (s' + 1) ++ R))).set i x = (A ++ X.take s') ++ x :: (x :: (X.drop (s' + 1) ++ R)) := by
        have := set_mid ((A ++ X.take s') ++ [x]) y x (X.drop (s' + 1) ++ R) i (by simp; omega)
        simpa using this
      rw [h1, set_mid _ _ _ _ _ (by simp; omega), ex]
      simp
    rw [← es] at hnx
    rw [e0]
    have hll : ((A ++ X.take s') ++ x :: (y :: (X.drop (s' + 1) ++ R))).length ≤ 65536 := by
      simp only [List.length_append, List.length_cons, lt, List.length_drop]; omega
    generalize ((A ++ X.take s') ++ x :: (y :: (X.drop (s' + 1) ++ R))) = L at *
    have hlj := lt_of_some gy
    have hml : (L.map chD).length = L.length := List.length_map ..
    rcases Bool.eq_false_or_eq_true (decide ((Nat.cast (R := Int) e) < (Nat.cast (R := Int) i)) : Bool) with h110 | h110
    · skip
      refine WK.segA ok 1000 0 [(117, RV.d (DV.int Go.IntKind.i64 (Nat.cast (R := Int) k))), (120, RV.d (DV.int Go.IntKind.i64 (Nat.cast (R := Int) k))), (122, RV.d (DV.agg [DV.str x.1, DV.lst 3 (List.map vD x.2) false, DV.lst 3 (List.map vD x.3) false, DV.lst 3 (List.map vD x.4) false])), (126, RV.d (DV.agg [DV.str y.1, DV.lst 3 (List.map vD y.2) false, DV.lst 3 (List.map vD y.3) false, DV.lst 3 (List.map vD y.4) false])), (112, RV.d (DV.int Go.IntKind.i64 (Nat.cast (R := Int) k))), (110, RV.d (DV.bool true))] [] [0, 14, 17] [decide (0 ≤ (Nat.cast (R := Int) k) ∧ (Nat.cast (R := Int) k) < (Nat.cast (R := Int) (L.map chD).length)), decide ((Nat.cast (R := Int) k).toNat < (L.map chD).length), Nat.ble 4 ((L.map chD).getD (Nat.cast (R := Int) k).toNat DV.nilp).cells.length, decide (0 ≤ (Nat.cast (R := Int) i) ∧ (Nat.cast (R := Int) i) < (Nat.cast (R := Int) (L.map chD).length)), decide ((Nat.cast (R := Int) i).toNat < (L.map chD).length), Nat.ble 4 ((L.map chD).getD (Nat.cast (R := Int) i).toNat DV.nilp).cells.length, decide (0 ≤ (Nat.cast (R := Int) i) ∧ (Nat.cast (R := Int) i) < (Nat.cast (R := Int) (L.map chD).length)), decide ((Nat.cast (R := Int) i).toNat < (L.map chD).length), decide (0 ≤ (Nat.cast (R := Int) k) ∧ (Nat.cast (R := Int) k) < (Nat.cast (R := Int) ((L.map chD).set (Nat.cast (R := Int) i).toNat (chD x)).length)), decide ((Nat.cast (R := Int) k).toNat < ((L.map chD).set (Nat.cast (R := Int) i).toNat (chD x)).length)] [(RV.d (DV.bool (decide ((Nat.cast (R := Int) e) < (Nat.cast (R := Int) i)))), RV.d (DV.bool true)), (RV.d (DV.int Go.IntKind.i64 (Go.IntKind.i64.wrap ((Nat.cast (R := Int) i) - 1))), RV.d (DV.int Go.IntKind.i64 (Nat.cast (R := Int) k))), (RV.d (DV.int Go.IntKind.i64 (Go.IntKind.i64.wrap ((Nat.cast (R := Int) i) - 1))), RV.d (DV.int Go.IntKind.i64 (Nat.cast (R := Int) k))), (RV.d (DV.agg (List.take 4 (List.drop 0 ((L.map chD).getD (Nat.cast (R := Int) k).toNat DV.nilp).cells))), RV.d (DV.agg [DV.str x.1, DV.lst 3 (List.map vD x.2) false, DV.lst 3 (List.map vD x.3) false, DV.lst 3 (List.map vD x.4) false])), (RV.d (DV.agg (List.take 4 (List.drop 0 ((L.map chD).getD (Nat.cast (R := Int) i).toNat DV.nilp).cells))), RV.d (DV.agg [DV.str y.1, DV.lst 3 (List.map vD y.2) false, DV.lst 3 (List.map vD y.3) false, DV.lst 3 (List.map vD y.4) false])), (RV.d (DV.int Go.IntKind.i64 (Go.IntKind.i64.wrap ((Nat.cast (R := Int) i) - 1))), RV.d (DV.int Go.IntKind.i64 (Nat.cast (R := Int) k)))] rfl (by kernel_rfl : runSegA (cfB (ts3 N)) 1000 0 _ _ _ _ (sy2d (L.map chD) (e : Int) (i : Int)) = some (stackAt syC 3, sy2d (((L.map chD).set (Nat.cast (R := Int) i).toNat (DV.agg [DV.str x.1, DV.lst 3 (List.map vD x.2) false, DV.lst 3 (List.map vD x.3) false, DV.lst 3 (List.map vD x.4) false])).set (Nat.cast (R := Int) k).toNat (DV.agg [DV.str y.1, DV.lst 3 (List.map vD y.2) false, DV.lst 3 (List.map vD y.3) false, DV.lst 3 (List.map vD y.4) false])) (e : Int) (k : Int), _, _)) (by refine ⟨?_, ?_, ?_, ?_, ?_, ?_, ?_, ?_, ?_, ?_, trivial⟩ <;> (first | exact bd_in gy | exact bd_in2 gy | exact bd_ble gy | exact bd_in gx | exact bd_in2 gx | exact bd_ble gx | (refine decide_eq_true ?_; simp only [Int.toNat_natCast, List.length_set, List.length_map]; omega))) (by refine ⟨le_bool h110, ?_, ?_, ?_, ?_, ?_, trivial⟩ <;> (first | exact le_bool (decide_eq_true (by omega)) | exact ov_load gx | exact ov_load gy | exact ov_succ (by omega) | exact ov_dec (by omega) (by omega))) ?_
      show WK Try.prog 1 (stackAt syC 3) (sy2d (((L.map chD).set (i : Int).toNat (chD x)).set (k : Int).toNat (chD y)) (e : Int) (k : Int)).den _
      rw [Int.toNat_natCast, Int.toNat_natCast, map_set', map_set']
      exact hnx
    · skip
      exact WK.fin ok 1000 0 [(117, RV.d (DV.int Go.IntKind.i64 (Nat.cast (R := Int) k))), (120, RV.d (DV.int Go.IntKind.i64 (Nat.cast (R := Int) k))), (122, RV.d (DV.agg [DV.str x.1, DV.lst 3 (List.map vD x.2) false, DV.lst 3 (List.map vD x.3) false, DV.lst 3 (List.map vD x.4) false])), (126, RV.d (DV.agg [DV.str y.1, DV.lst 3 (List.map vD y.2) false, DV.lst 3 (List.map vD y.3) false, DV.lst 3 (List.map vD y.4) false])), (112, RV.d (DV.int Go.IntKind.i64 (Nat.cast (R := Int) k))), (110, RV.d (DV.bool false))] [] [(RV.d (DV.bool (decide ((Nat.cast (R := Int) e) < (Nat.cast (R := Int) i)))), RV.d (DV.bool false))] rfl (by kernel_rfl : runEnd (cfB (ts3 N)) false _ 1000 0 _ _ (sy2d (L.map chD) (e : Int) (i : Int)) = some (RV.tup [], [PObj.arr 46 4 (L.map chD)], _, _)) trivial ⟨le_bool h110, trivial⟩ (by exfalso; have := of_decide_eq_false h110; omega)
  · have hst : s = t := by omega
    rw [hst, hT]
    exact WK.fin ok 1000 0 [(110, .d (.bool false))] [] [(.d (.bool (decide ((Nat.cast (R := Int) e) < (Nat.cast (R := Int) i)))), .d (.bool false))] rfl (by kernel_rfl : runEnd (cfB (ts3 N)) false _ 1000 0 _ _ (sy2d T (e : Int) (i : Int)) = some (.tup [], arC T, _, _)) trivial ⟨le_bool (decide_eq_false (by omega)), trivial⟩ ⟨rfl, rfl⟩
set_option maxHeartbeats 2000000 in
/-- one ahead of a sorted part -/
theorem sy_one {N : Nat} (hent : EntsOk Try.prog (ts3 N)) (A : List Chg) (x : Chg) (Y B : List Chg) (hs : Srt.srtB cmpC Y = true) (hok : okL (A ++ x :: (Y ++ B))) :
    WK Try.prog 1 (stackAt syC 0) (sy1 ((A ++ x :: (Y ++ B)).map chD) (A.length : Int) ((A.length + 1 : Nat) : Int) ((A.length + 1 + Y.length : Nat) : Int)).den (EndsY ((A ++ (Srt.mrg cmpC [x] Y ++ B)).map chD)) := by
  have ok := cfB_ok hent
  obtain ⟨a, ha⟩ : ∃ a, A.length = a := ⟨_, rfl⟩
  obtain ⟨T, hT⟩ : ∃ T, (A ++ (Srt.mrg cmpC [x] Y ++ B)).map chD = T := ⟨_, rfl⟩
  have hlen : a + (Y.length + B.length + 1) ≤ 65536 := by have := hok.1; simp only [List.length_append, List.length_cons] at this; omega
  have hup := fun t ht => sy_up hent A x (Y ++ B) t ht hok
  have hxo : Chg.ok x := hok.2 x (by simp)
  have hyo : ∀ y ∈ Y, Chg.ok y := fun y hy => hok.2 y (by simp [hy])
  have gx : (A ++ x :: (Y ++ B))[a]? = some x := get_mid _ _ _ _ ha.symm
  have gY : ∀ (w : Nat) (y : Chg), Y[w]? = some y → (A ++ x :: (Y ++ B))[a + 1 + w]? = some y := fun w y h => by
    have hw := (List.getElem?_eq_some_iff.1 h).1
    rw [show A ++ x :: (Y ++ B) = (A ++ [x]) ++ (Y ++ B) by simp, get_in _ _ _ (by simp; omega) (by simp; omega), ← h]
    congr 1; simp; omega
  rw [hT, ha]
  rw [ha] at hup
  have key := WK.rec' (P := Try.prog) (m := 1) (k := stackAt syC 0) (Q := EndsY T) (fun (q : Nat × Nat) => sy1 ((A ++ x :: (Y ++ B)).map chD) (a : Int) ((a + 1 + q.1 : Nat) : Int) ((a + 1 + q.2 : Nat) : Int))
    (fun q => q.1 ≤ q.2 ∧ q.2 ≤ Y.length ∧ (q.1 = 0 ∨ ∃ y, Y[q.1 - 1]? = some y ∧ cmpC y x < 0) ∧ (q.2 = Y.length ∨ ∃ y, Y[q.2]? = some y ∧ ¬ cmpC y x < 0)) (fun q => q.2 - q.1) ?_ (0, Y.length) ⟨Nat.zero_le _, Nat.le_refl _, .inl rfl, .inl rfl⟩
  · simpa using key
  rintro ⟨t, u⟩ ⟨h1, h2, h3, h4⟩ ih
  simp only at h1 h2 h3 h4 ih ⊢
  obtain ⟨i, hi⟩ : ∃ i, a + 1 + t = i := ⟨_, rfl⟩
  obtain ⟨j, hj⟩ : ∃ j, a + 1 + u = j := ⟨_, rfl⟩
  rw [hi, hj]
  by_cases hlt : t < u
  · obtain ⟨w, hw⟩ : ∃ w, (t + u) / 2 = w := ⟨_, rfl⟩
    obtain ⟨k, hk⟩ : ∃ k, a + 1 + w = k := ⟨_, rfl⟩
    obtain ⟨y, hy⟩ : ∃ y, Y[w]'(by omega) = y := ⟨_, rfl⟩
    have hyw : Y[w]? = some y := by rw [List.getElem?_eq_getElem (by omega), hy]
    have gy := gY w y hyw
    rw [hk] at gy
    have hyo := hyo y (List.mem_of_getElem? hyw)
    have hlo : cmpC y x < 0 → _ := fun h => ih (w + 1, u) ⟨by simp only; omega, h2, .inr ⟨y, by simpa using hyw, h⟩, h4⟩ (by simp only; omega)
    have hhi : ¬ cmpC y x < 0 → _ := fun h => ih (t, w) ⟨by simp only; omega, by simp only; omega, h3, .inr ⟨y, hyw, h⟩⟩ (by simp only; omega)
    simp only [show a + 1 + (w + 1) = k + 1 by omega, hk, hi, hj] at hlo hhi
    generalize A ++ x :: (Y ++ B) = L at *
    have hlk := lt_of_some gy
    have hml : (L.map chD).length = L.length := List.length_map ..
    obtain ⟨l, hl⟩ : ∃ l, L.map chD = l := ⟨_, rfl⟩
    have bx1 := bd_in gx
    have bx2 := bd_in2 gx
    have bx3 := bd_ble gx
    have bx4 := ov_load gx
    have by1 := bd_in gy
    have by2 := bd_in2 gy
    have by3 := bd_ble gy
    have by4 := ov_load gy
    rw [hl] at hlo hhi bx1 bx2 bx3 bx4 by1 by2 by3 by4 ⊢
    rcases Bool.eq_false_or_eq_true (decide (Plain.cmpC y x < 0) : Bool) with h50 | h50
    · skip
      refine WK.segA ok 1000 0 [(33, RV.d (DV.bool true)), (39, RV.d (DV.int Go.IntKind.i64 (Nat.cast (R := Int) k))), (44, RV.d (DV.agg [DV.str y.1, DV.lst 3 (List.map vD y.2) false, DV.lst 3 (List.map vD y.3) false, DV.lst 3 (List.map vD y.4) false])), (48, RV.d (DV.agg [DV.str x.1, DV.lst 3 (List.map vD x.2) false, DV.lst 3 (List.map vD x.3) false, DV.lst 3 (List.map vD x.4) false])), (49, RV.d (DV.int Go.IntKind.i64 (Plain.cmpC y x))), (52, RV.d (DV.int Go.IntKind.i64 (Nat.cast (R := Int) (k + 1)))), (50, RV.d (DV.bool true))] [] [0, 1, 4, 10, 11] [true, decide (0 ≤ (Nat.cast (R := Int) k) ∧ (Nat.cast (R := Int) k) < (Nat.cast (R := Int) l.length)), decide ((Nat.cast (R := Int) k).toNat < l.length), Nat.ble 4 (l.getD (Nat.cast (R := Int) k).toNat DV.nilp).cells.length, decide (0 ≤ (Nat.cast (R := Int) a) ∧ (Nat.cast (R := Int) a) < (Nat.cast (R := Int) l.length)), decide ((Nat.cast (R := Int) a).toNat < l.length), Nat.ble 4 (l.getD (Nat.cast (R := Int) a).toNat DV.nilp).cells.length, isC (DV.agg [DV.str y.1, DV.lst 3 (List.map vD y.2) false, DV.lst 3 (List.map vD y.3) false, DV.lst 3 (List.map vD y.4) false]), isC (DV.agg [DV.str x.1, DV.lst 3 (List.map vD x.2) false, DV.lst 3 (List.map vD x.3) false, DV.lst 3 (List.map vD x.4) false])] [(RV.d (DV.bool (decide ((Nat.cast (R := Int) i) < (Nat.cast (R := Int) j)))), RV.d (DV.bool true)), (RV.d (DV.int Go.IntKind.i64 (Go.IntKind.i64.wrap ((Go.IntKind.u64.wrap (Go.IntKind.i64.wrap ((Nat.cast (R := Int) i) + (Nat.cast (R := Int) j)))).fdiv (2)))), RV.d (DV.int Go.IntKind.i64 (Nat.cast (R := Int) k))), (RV.d (DV.agg (List.take 4 (List.drop 0 (l.getD (Nat.cast (R := Int) k).toNat DV.nilp).cells))), RV.d (DV.agg [DV.str y.1, DV.lst 3 (List.map vD y.2) false, DV.lst 3 (List.map vD y.3) false, DV.lst 3 (List.map vD y.4) false])), (RV.d (DV.agg (List.take 4 (List.drop 0 (l.getD (Nat.cast (R := Int) a).toNat DV.nilp).cells))), RV.d (DV.agg [DV.str x.1, DV.lst 3 (List.map vD x.2) false, DV.lst 3 (List.map vD x.3) false, DV.lst 3 (List.map vD x.4) false])), (RV.d (DV.int Go.IntKind.i64 (Plain.cmpC { t := y.1, k := List.map toVal (List.map vD y.k), o := List.map toVal (List.map vD y.o), n := List.map toVal (List.map vD y.n) } { t := x.1, k := List.map toVal (List.map vD x.k), o := List.map toVal (List.map vD x.o), n := List.map toVal (List.map vD x.n) })), RV.d (DV.int Go.IntKind.i64 (Plain.cmpC y x))), (RV.d (DV.bool (decide (Plain.cmpC y x < 0))), RV.d (DV.bool true)), (RV.d (DV.int Go.IntKind.i64 (Go.IntKind.i64.wrap ((Nat.cast (R := Int) k) + 1))), RV.d (DV.int Go.IntKind.i64 (Nat.cast (R := Int) (k + 1))))] rfl (by kernel_rfl : runSegA (cfB (ts3 N)) 1000 0 _ _ _ _ (sy1 l (a : Int) (i : Int) (j : Int)) = some (stackAt syC 0, sy1 l (a : Int) (Nat.cast (R := Int) (k + 1)) (Nat.cast (R := Int) j), _, _)) (by refine ⟨?_, ?_, ?_, ?_, ?_, ?_, ?_, ?_, ?_, trivial⟩ <;> (first | rfl | exact bx1 | exact bx2 | exact bx3 | exact by1 | exact by2 | exact by3 | exact isC_chD hxo | exact isC_chD hyo)) (by refine ⟨?_, ?_, ?_, ?_, ?_, le_bool h50, ?_, trivial⟩ <;> (first | exact le_bool (decide_eq_true (by omega)) | exact ov_half (by omega) (by omega) | exact bx4 | exact by4 | exact ov_C y x | exact ov_succ (by omega))) ?_
      first | exact hlo (of_decide_eq_true h50) | exact hhi (of_decide_eq_false h50)
    · skip
      refine WK.segA ok 1000 0 [(33, RV.d (DV.bool true)), (39, RV.d (DV.int Go.IntKind.i64 (Nat.cast (R := Int) k))), (44, RV.d (DV.agg [DV.str y.1, DV.lst 3 (List.map vD y.2) false, DV.lst 3 (List.map vD y.3) false, DV.lst 3 (List.map vD y.4) false])), (48, RV.d (DV.agg [DV.str x.1, DV.lst 3 (List.map vD x.2) false, DV.lst 3 (List.map vD x.3) false, DV.lst 3 (List.map vD x.4) false])), (49, RV.d (DV.int Go.IntKind.i64 (Plain.cmpC y x))), (52, RV.d (DV.int Go.IntKind.i64 (Nat.cast (R := Int) (k + 1)))), (50, RV.d (DV.bool false))] [] [0, 1, 4, 10, 11] [true, decide (0 ≤ (Nat.cast (R := Int) k) ∧ (Nat.cast (R := Int) k) < (Nat.cast (R := Int) l.length)), decide ((Nat.cast (R := Int) k).toNat < l.length), Nat.ble 4 (l.getD (Nat.cast (R := Int) k).toNat DV.nilp).cells.length, decide (0 ≤ (Nat.cast (R := Int) a) ∧ (Nat.cast (R := Int) a) < (Nat.cast (R := Int) l.length)), decide ((Nat.cast (R := Int) a).toNat < l.length), Nat.ble 4 (l.getD (Nat.cast (R := Int) a).toNat DV.nilp).cells.length, isC (DV.agg [DV.str y.1, DV.lst 3 (List.map vD y.2) false, DV.lst 3 (List.map vD y.3) false, DV.lst 3 (List.map vD y.4) false]), isC (DV.agg [DV.str x.1, DV.lst 3 (List.map vD x.2) false, DV.lst 3 (List.map vD x.3) false, DV.lst 3 (List.map vD x.4) false])] [(RV.d (DV.bool (decide ((Nat.cast (R := Int) i) < (Nat.cast (R := Int) j)))), RV.d (DV.bool true)), (RV.d (DV.int Go.IntKind.i64 (Go.IntKind.i64.wrap ((Go.IntKind.u64.wrap (Go.IntKind.i64.wrap ((Nat.cast (R := Int) i) + (Nat.cast (R := Int) j)))).fdiv (2)))), RV.d (DV.int Go.IntKind.i64 (Nat.cast (R := Int) k))), (RV.d (DV.agg (List.take 4 (List.drop 0 (l.getD (Nat.cast (R := Int) k).toNat DV.nilp).cells))), RV.d (DV.agg [DV.str y.1, DV.lst 3 (List.map vD y.2) false, DV.lst 3 (List.map vD y.3) false, DV.lst 3 (List.map vD y.4) false])), (RV.d (DV.agg (List.take 4 (List.drop 0 (l.getD (Nat.cast (R := Int) a).toNat DV.nilp).cells))), RV.d (DV.agg [DV.str x.1, DV.lst 3 (List.map vD x.2) false, DV.lst 3 (List.map vD x.3) false, DV.lst 3 (List.map vD x.4) false])), (RV.d (DV.int Go.IntKind.i64 (Plain.cmpC { t := y.1, k := List.map toVal (List.map vD y.k), o := List.map toVal (List.map vD y.o), n := List.map toVal (List.map vD y.n) } { t := x.1, k := List.map toVal (List.map vD x.k), o := List.map toVal (List.map vD x.o), n := List.map toVal (List.map vD x.n) })), RV.d (DV.int Go.IntKind.i64 (Plain.cmpC y x))), (RV.d (DV.bool (decide (Plain.cmpC y x < 0))), RV.d (DV.bool false))] rfl (by kernel_rfl : runSegA (cfB (ts3 N)) 1000 0 _ _ _ _ (sy1 l (a : Int) (i : Int) (j : Int)) = some (stackAt syC 0, sy1 l (a : Int) (Nat.cast (R := Int) i) (Nat.cast (R := Int) k), _, _)) (by refine ⟨?_, ?_, ?_, ?_, ?_, ?_, ?_, ?_, ?_, trivial⟩ <;> (first | rfl | exact bx1 | exact bx2 | exact bx3 | exact by1 | exact by2 | exact by3 | exact isC_chD hxo | exact isC_chD hyo)) (by refine ⟨?_, ?_, ?_, ?_, ?_, le_bool h50, trivial⟩ <;> (first | exact le_bool (decide_eq_true (by omega)) | exact ov_half (by omega) (by omega) | exact bx4 | exact by4 | exact ov_C y x | exact ov_succ (by omega))) ?_
      first | exact hlo (of_decide_eq_true h50) | exact hhi (of_decide_eq_false h50)
  · have e : t = u := by omega
    subst e
    have hm := Srt.one_l_at preC hs h3 h4
    have hd := hup t (by simp; omega)
    rw [hi] at hd
    have eT : (A ++ ((Y ++ B).take t ++ x :: (Y ++ B).drop t)).map chD = T := by
      rw [← hT, hm, List.take_append_of_le_length h2, List.drop_append_of_le_length h2]
      simp
    rw [eT] at hd
    obtain ⟨l, hl⟩ : ∃ l, (A ++ x :: (Y ++ B)).map chD = l := ⟨_, rfl⟩
    rw [hl] at hd ⊢
    have hj' : j = i := by omega
    refine WK.segA ok 1000 0 [(33, RV.d (DV.bool false))] [] [0, 10, 13] [] [(RV.d (DV.bool (decide ((Nat.cast (R := Int) i) < (Nat.cast (R := Int) j)))), RV.d (DV.bool false))] rfl (by kernel_rfl : runSegA (cfB (ts3 N)) 1000 0 _ _ _ _ (sy1 l (a : Int) (i : Int) (j : Int)) = some (stackAt syC 1, sy1u l (i : Int) (a : Int), _, _)) trivial ⟨(by first | exact le_bool (decide_eq_false (by omega))), trivial⟩ ?_
    exact hd
set_option maxHeartbeats 2000000 in
/-- one behind a sorted part -/
theorem sy_last {N : Nat} (hent : EntsOk Try.prog (ts3 N)) (A X : List Chg) (y : Chg) (B : List Chg) (hs : Srt.srtB cmpC X = true) (hok : okL (A ++ (X ++ y :: B))) :
    WK Try.prog 1 (stackAt syC 2) (sy2 ((A ++ (X ++ y :: B)).map chD) ((A.length + X.length : Nat) : Int) (A.length : Int) ((A.length + X.length : Nat) : Int)).den (EndsY ((A ++ (Srt.mrg cmpC X [y] ++ B)).map chD)) := by
  have ok := cfB_ok hent
  obtain ⟨a, ha⟩ : ∃ a, A.length = a := ⟨_, rfl⟩
  obtain ⟨m, hm⟩ : ∃ m, a + X.length = m := ⟨_, rfl⟩
  obtain ⟨T, hT⟩ : ∃ T, (A ++ (Srt.mrg cmpC X [y] ++ B)).map chD = T := ⟨_, rfl⟩
  have hlen : a + (X.length + (B.length + 1)) ≤ 65536 := by have := hok.1; simp only [List.length_append, List.length_cons] at this; omega
  have hdn := fun t ht => sy_down hent A X y B t ht hok
  have hyo : Chg.ok y := hok.2 y (by simp)
  have hxo : ∀ x ∈ X, Chg.ok x := fun x hx => hok.2 x (by simp [hx])
  have gy : (A ++ (X ++ y :: B))[m]? = some y := by
    rw [show A ++ (X ++ y :: B) = (A ++ X) ++ y :: B by simp]; exact get_mid _ _ _ _ (by simp; omega)
  have gX : ∀ (w : Nat) (x : Chg), X[w]? = some x → (A ++ (X ++ y :: B))[a + w]? = some x := fun w x h => by
    have hw := (List.getElem?_eq_some_iff.1 h).1
    rw [get_in _ _ _ (by omega) (by omega), ← h]
    congr 1; omega
  rw [hT, ha, hm]
  rw [ha, hm] at hdn
  have key := WK.rec' (P := Try.prog) (m := 1) (k := stackAt syC 2) (Q := EndsY T) (fun (q : Nat × Nat) => sy2 ((A ++ (X ++ y :: B)).map chD) (m : Int) ((a + q.1 : Nat) : Int) ((a + q.2 : Nat) : Int))
    (fun q => q.1 ≤ q.2 ∧ q.2 ≤ X.length ∧ (q.1 = 0 ∨ ∃ x, X[q.1 - 1]? = some x ∧ ¬ cmpC y x < 0) ∧ (q.2 = X.length ∨ ∃ x, X[q.2]? = some x ∧ cmpC y x < 0)) (fun q => q.2 - q.1) ?_ (0, X.length) ⟨Nat.zero_le _, Nat.le_refl _, .inl rfl, .inl rfl⟩
  · simp only [hm, Nat.add_zero] at key
    exact key
  rintro ⟨t, u⟩ ⟨h1, h2, h3, h4⟩ ih
  simp only at h1 h2 h3 h4 ih ⊢
  obtain ⟨i, hi⟩ : ∃ i, a + t = i := ⟨_, rfl⟩
  obtain ⟨j, hj⟩ : ∃ j, a + u = j := ⟨_, rfl⟩
  rw [hi, hj]
  by_cases hlt : t < u
  · obtain ⟨w, hw⟩ : ∃ w, (t + u) / 2 = w := ⟨_, rfl⟩
    obtain ⟨k, hk⟩ : ∃ k, a + w = k := ⟨_, rfl⟩
    obtain ⟨x, hx⟩ : ∃ x, X[w]'(by omega) = x := ⟨_, rfl⟩
    have hxw : X[w]? = some x := by rw [List.getElem?_eq_getElem (by omega), hx]
    have gx := gX w x hxw
    rw [hk] at gx
    have hxo := hxo x (List.mem_of_getElem? hxw)
    have hhi : cmpC y x < 0 → _ := fun h => ih (t, w) ⟨by simp only; omega, by simp only; omega, h3, .inr ⟨x, hxw, h⟩⟩ (by simp only; omega)
    have hlo : ¬ cmpC y x < 0 → _ := fun h => ih (w + 1, u) ⟨by simp only; omega, h2, .inr ⟨x, by simpa using hxw, h⟩, h4⟩ (by simp only; omega)
    simp only [show a + (w + 1) = k + 1 by omega, hk, hi, hj] at hlo hhi
    generalize A ++ (X ++ y :: B) = L at *
    have hlk := lt_of_some gy
    have hml : (L.map chD).length = L.length := List.length_map ..
    obtain ⟨l, hl⟩ : ∃ l, L.map chD = l := ⟨_, rfl⟩
    have bx1 := bd_in gx
    have bx2 := bd_in2 gx
    have bx3 := bd_ble gx
    have bx4 := ov_load gx
    have by1 := bd_in gy
    have by2 := bd_in2 gy
    have by3 := bd_ble gy
    have by4 := ov_load gy
    rw [hl] at hlo hhi bx1 bx2 bx3 bx4 by1 by2 by3 by4 ⊢
    rcases Bool.eq_false_or_eq_true (!decide (Plain.cmpC y x < 0) : Bool) with h103 | h103
    · skip
      refine WK.segA ok 1000 0 [(85, RV.d (DV.bool true)), (91, RV.d (DV.int Go.IntKind.i64 (Nat.cast (R := Int) k))), (96, RV.d (DV.agg [DV.str y.1, DV.lst 3 (List.map vD y.2) false, DV.lst 3 (List.map vD y.3) false, DV.lst 3 (List.map vD y.4) false])), (100, RV.d (DV.agg [DV.str x.1, DV.lst 3 (List.map vD x.2) false, DV.lst 3 (List.map vD x.3) false, DV.lst 3 (List.map vD x.4) false])), (101, RV.d (DV.int Go.IntKind.i64 (Plain.cmpC y x))), (105, RV.d (DV.int Go.IntKind.i64 (Nat.cast (R := Int) (k + 1)))), (103, RV.d (DV.bool true))] [] [0, 2, 4, 14, 15] [true, decide (0 ≤ (Nat.cast (R := Int) m) ∧ (Nat.cast (R := Int) m) < (Nat.cast (R := Int) l.length)), decide ((Nat.cast (R := Int) m).toNat < l.length), Nat.ble 4 (l.getD (Nat.cast (R := Int) m).toNat DV.nilp).cells.length, decide (0 ≤ (Nat.cast (R := Int) k) ∧ (Nat.cast (R := Int) k) < (Nat.cast (R := Int) l.length)), decide ((Nat.cast (R := Int) k).toNat < l.length), Nat.ble 4 (l.getD (Nat.cast (R := Int) k).toNat DV.nilp).cells.length, isC (DV.agg [DV.str y.1, DV.lst 3 (List.map vD y.2) false, DV.lst 3 (List.map vD y.3) false, DV.lst 3 (List.map vD y.4) false]), isC (DV.agg [DV.str x.1, DV.lst 3 (List.map vD x.2) false, DV.lst 3 (List.map vD x.3) false, DV.lst 3 (List.map vD x.4) false])] [(RV.d (DV.bool (decide ((Nat.cast (R := Int) i) < (Nat.cast (R := Int) j)))), RV.d (DV.bool true)), (RV.d (DV.int Go.IntKind.i64 (Go.IntKind.i64.wrap ((Go.IntKind.u64.wrap (Go.IntKind.i64.wrap ((Nat.cast (R := Int) i) + (Nat.cast (R := Int) j)))).fdiv (2)))), RV.d (DV.int Go.IntKind.i64 (Nat.cast (R := Int) k))), (RV.d (DV.agg (List.take 4 (List.drop 0 (l.getD (Nat.cast (R := Int) m).toNat DV.nilp).cells))), RV.d (DV.agg [DV.str y.1, DV.lst 3 (List.map vD y.2) false, DV.lst 3 (List.map vD y.3) false, DV.lst 3 (List.map vD y.4) false])), (RV.d (DV.agg (List.take 4 (List.drop 0 (l.getD (Nat.cast (R := Int) k).toNat DV.nilp).cells))), RV.d (DV.agg [DV.str x.1, DV.lst 3 (List.map vD x.2) false, DV.lst 3 (List.map vD x.3) false, DV.lst 3 (List.map vD x.4) false])), (RV.d (DV.int Go.IntKind.i64 (Plain.cmpC { t := y.1, k := List.map toVal (List.map vD y.k), o := List.map toVal (List.map vD y.o), n := List.map toVal (List.map vD y.n) } { t := x.1, k := List.map toVal (List.map vD x.k), o := List.map toVal (List.map vD x.o), n := List.map toVal (List.map vD x.n) })), RV.d (DV.int Go.IntKind.i64 (Plain.cmpC y x))), (RV.d (DV.bool !decide (Plain.cmpC y x < 0)), RV.d (DV.bool true)), (RV.d (DV.int Go.IntKind.i64 (Go.IntKind.i64.wrap ((Nat.cast (R := Int) k) + 1))), RV.d (DV.int Go.IntKind.i64 (Nat.cast (R := Int) (k + 1))))] rfl (by kernel_rfl : runSegA (cfB (ts3 N)) 1000 0 _ _ _ _ (sy2 l (m : Int) (i : Int) (j : Int)) = some (stackAt syC 2, sy2 l (m : Int) (Nat.cast (R := Int) (k + 1)) (Nat.cast (R := Int) j), _, _)) (by refine ⟨?_, ?_, ?_, ?_, ?_, ?_, ?_, ?_, ?_, trivial⟩ <;> (first | rfl | exact bx1 | exact bx2 | exact bx3 | exact by1 | exact by2 | exact by3 | exact isC_chD hxo | exact isC_chD hyo)) (by refine ⟨?_, ?_, ?_, ?_, ?_, le_bool h103, ?_, trivial⟩ <;> (first | exact le_bool (decide_eq_true (by omega)) | exact ov_half (by omega) (by omega) | exact bx4 | exact by4 | exact ov_C y x | exact ov_succ (by omega))) ?_
      first | exact hlo (by simpa using h103) | exact hhi (by simpa using h103)
    · skip
      refine WK.segA ok 1000 0 [(85, RV.d (DV.bool true)), (91, RV.d (DV.int Go.IntKind.i64 (Nat.cast (R := Int) k))), (96, RV.d (DV.agg [DV.str y.1, DV.lst 3 (List.map vD y.2) false, DV.lst 3 (List.map vD y.3) false, DV.lst 3 (List.map vD y.4) false])), (100, RV.d (DV.agg [DV.str x.1, DV.lst 3 (List.map vD x.2) false, DV.lst 3 (List.map vD x.3) false, DV.lst 3 (List.map vD x.4) false])), (101, RV.d (DV.int Go.IntKind.i64 (Plain.cmpC y x))), (105, RV.d (DV.int Go.IntKind.i64 (Nat.cast (R := Int) (k + 1)))), (103, RV.d (DV.bool false))] [] [0, 2, 4, 14, 15] [true, decide (0 ≤ (Nat.cast (R := Int) m) ∧ (Nat.cast (R := Int) m) < (Nat.cast (R := Int) l.length)), decide ((Nat.cast (R := Int) m).toNat < l.length), Nat.ble 4 (l.getD (Nat.cast (R := Int) m).toNat DV.nilp).cells.length, decide (0 ≤ (Nat.cast (R := Int) k) ∧ (Nat.cast (R := Int) k) < (Nat.cast (R := Int) l.length)), decide ((Nat.cast (R := Int) k).toNat < l.length), Nat.ble 4 (l.getD (Nat.cast (R := Int) k).toNat DV.nilp).cells.length, isC (DV.agg [DV.str y.1, DV.lst 3 (List.map vD y.2) false, DV.lst 3 (List.map vD y.3) false, DV.lst 3 (List.map vD y.4) false]), isC (DV.agg [DV.str x.1, DV.lst 3 (List.map vD x.2) false, DV.lst 3 (List.map vD x.3) false, DV.lst 3 (List.map vD x.4) false])] [(RV.d (DV.bool (decide ((Nat.cast (R := Int) i) < (Nat.cast (R := Int) j)))), RV.d (DV.bool true)), (RV.d (DV.int Go.IntKind.i64 (Go.IntKind.i64.wrap ((Go.IntKind.u64.wrap (Go.IntKind.i64.wrap ((Nat.cast (R := Int) i) + (Nat.cast (R := Int) j)))).fdiv (2)))), RV.d (DV.int Go.IntKind.i64 (Nat.cast (R := Int) k))), (RV.d (DV.agg (List.take 4 (List.drop 0 (l.getD (Nat.cast (R := Int) m).toNat DV.nilp).cells))), RV.d (DV.agg [DV.str y.1, DV.lst 3 (List.map vD y.2) false, DV.lst 3 (List.map vD y.3) false, DV.lst 3 (List.map vD y.4) false])), (RV.d (DV.agg (List.take 4 (List.drop 0 (l.getD (Nat.cast (R := Int) k).toNat DV.nilp).cells))), RV.d (DV.agg [DV.str x.1, DV.lst 3 (List.map vD x.2) false, DV.lst 3 (List.map vD x.3) false, DV.lst 3 (List.map vD x.4) false])), (RV.d (DV.int Go.IntKind.i64 (Plain.cmpC { t := y.1, k := List.map toVal (List.map vD y.k), o := List.map toVal (List.map vD y.o), n := List.map toVal (List.map vD y.n) } { t := x.1, k := List.map toVal (List.map vD x.k), o := List.map toVal (List.map vD x.o), n := List.map toVal (List.map vD x.n) })), RV.d (DV.int Go.IntKind.i64 (Plain.cmpC y x))), (RV.d (DV.bool !decide (Plain.cmpC y x < 0)), RV.d (DV.bool false))] rfl (by kernel_rfl : runSegA (cfB (ts3 N)) 1000 0 _ _ _ _ (sy2 l (m : Int) (i : Int) (j : Int)) = some (stackAt syC 2, sy2 l (m : Int) (Nat.cast (R := Int) i) (Nat.cast (R := Int) k), _, _)) (by refine ⟨?_, ?_, ?_, ?_, ?_, ?_, ?_, ?_, ?_, trivial⟩ <;> (first | rfl | exact bx1 | exact bx2 | exact bx3 | exact by1 | exact by2 | exact by3 | exact isC_chD hxo | exact isC_chD hyo)) (by refine ⟨?_, ?_, ?_, ?_, ?_, le_bool h103, trivial⟩ <;> (first | exact le_bool (decide_eq_true (by omega)) | exact ov_half (by omega) (by omega) | exact bx4 | exact by4 | exact ov_C y x | exact ov_succ (by omega))) ?_
      first | exact hlo (by simpa using h103) | exact hhi (by simpa using h103)
  · have e : t = u := by omega
    subst e
    have hmm := Srt.one_r_at preC hs h3 h4
    have hd := hdn t h2
    rw [hi] at hd
    have eT : (A ++ (X.take t ++ y :: (X.drop t ++ B))).map chD = T := by
      rw [← hT, hmm]
      simp
    rw [eT] at hd
    obtain ⟨l, hl⟩ : ∃ l, (A ++ (X ++ y :: B)).map chD = l := ⟨_, rfl⟩
    rw [hl] at hd ⊢
    have hj' : j = i := by omega
    refine WK.segA ok 1000 0 [(85, RV.d (DV.bool false))] [] [0, 14, 17] [] [(RV.d (DV.bool (decide ((Nat.cast (R := Int) i) < (Nat.cast (R := Int) j)))), RV.d (DV.bool false))] rfl (by kernel_rfl : runSegA (cfB (ts3 N)) 1000 0 _ _ _ _ (sy2 l (m : Int) (i : Int) (j : Int)) = some (stackAt syC 3, sy2d l (i : Int) (m : Int), _, _)) trivial ⟨(by first | exact le_bool (decide_eq_false (by omega))), trivial⟩ ?_
    exact hd
end Go.Proofs.Ytljfolepmkcjlaa
