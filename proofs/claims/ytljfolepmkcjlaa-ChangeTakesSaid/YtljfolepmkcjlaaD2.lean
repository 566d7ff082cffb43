/-
  change.Take, run.
-/
import Derived.Test.YtljfolepmkcjlaaD1
namespace Go.Proofs.Ytljfolepmkcjlaa
open Go.RowKit Plain Am IntWalk
set_option maxRecDepth 100000
set_option linter.unusedVariables false
set_option linter.unusedSimpArgs false

def rowER (R : Rd → List Val × Rd) : Ent := fun a o => match a, o with
  | [.ptr 0 0, .ptr 1 0, .ptr 2 0], [.box F [.clo (.func f) [] [.ptr 1 0, .ptr 2 0]], .box A [.d (.str s)], .box B [.d (.bool ok)]] =>
    some (.d (rD (R ⟨s, ok⟩).1), [.box F [.clo (.func f) [] [.ptr 1 0, .ptr 2 0]], .box A [.d (.str (R ⟨s, ok⟩).2.s)], .box B [.d (.bool (R ⟨s, ok⟩).2.ok)]], [Nat.beq f 43, Nat.beq F 64, Nat.beq A 9, Nat.beq B 4, decide (s.length ≤ 65536)])
  | _, _ => none
noncomputable def tn3 (R : Rd → List Val × Rd) : List (Nat × Ent) := (45, rowER R) :: (17, e1 ckG) :: tn2
theorem tn3_ok {R : Rd → List Val × Rd} (hR : R = rowI) : EntsOk Try.prog (tn3 R) := by
  subst hR
  exact .cons row_ent2 (.cons ck_ent tn2_ok)
/-- an answer: the changes and the error -/
def tkR : Option (List Chg) → List Chg × Int
  | some l => (l, 0)
  | none => ([], 7)
/-- what the loop's round needs to know of the rows' reading -/
structure RowIs (R : Rd → List Val × Rd) : Prop where
  eq : R = rowI
  len : ∀ p, (R p).2.s.length ≤ p.s.length
  wf : ∀ p, (∀ v ∈ (R p).1, v.wf) ∧ (R p).1.length ≤ 16
  it : ∀ p, itI p = (⟨if (R (R (R (R p).2).2).2).2.ok then (txtI (R p).1).getD [] else [], (R (R p).2).1, (R (R (R p).2).2).1, (R (R (R (R p).2).2).2).1⟩, ⟨(R (R (R (R p).2).2).2).2.s, (R (R (R (R p).2).2).2).2.ok && (txtI (R p).1).isSome⟩)
theorem rowIs : RowIs rowI := ⟨rfl, rowI_len, rowI_wf, fun _ => rfl⟩
theorem nil_leD : RVle (.d (.lst 0 [] true)) (.d (.lst 4 [] false)) := by
  intro κ φ O h v r
  cases r with
  | d hr =>
    cases hr with
    | lst0 hf => exact .d (.lst0 (fun h => by cases h))
    | lst _ _ hf _ _ _ _ => have := (hf rfl).2; omega
theorem bd_appD {out : List DV} {z : DV} (h : out.length ≤ 65536) : decide ((out.length + [z].length) * 88 ≤ 2 ^ 38) = true := decide_eq_true (by simp only [List.length_singleton]; omega)
theorem ovD_K0 {l : List Chg} (h : mayL l = true) : RVle (.d (.int .i64 (if mayL (unL (chL l)) then 0 else 2))) (.d (.int .i64 0)) := .of_eq (by rw [unL_chL, h]; rfl)
theorem ovD_K2 {l : List Chg} (h : mayL l = false) : RVle (.d (.int .i64 (if mayL (unL (chL l)) then 0 else 2))) (.d (.int .i64 2)) := .of_eq (by rw [unL_chL, h]; rfl)
abbrev EndsT (o : Option (List Chg)) : SSt → Prop := Ends (Try.f21.results.toList) (.tup [.d (chL (tkR o).1), .d (.int .i64 (tkR o).2)])
/-- what the end answers -/
def endI (g : List Chg × Rd) : Option (List Chg) := if g.2.ok = true ∧ g.2.s = [] ∧ mayL g.1 = true then some g.1 else none
theorem endI_no {g : List Chg × Rd} (h : g.2.ok = false ∨ g.2.s ≠ [] ∨ mayL g.1 = false) : endI g = none := by
  unfold endI
  rw [if_neg]
  rintro ⟨h1, h2, h3⟩
  rcases h with h | h | h
  · rw [h1] at h; cases h
  · exact h h2
  · rw [h3] at h; cases h
set_option maxHeartbeats 2000000 in
theorem tk_loop {R : Rd → List Val × Rd} (hR : RowIs R) (G : List Chg × Rd) (p0 : Rd) (n0 : Nat) (hn0 : n0 ≤ 4000) (hp0 : p0.s.length ≤ 65536) (hG : goI n0 [] p0 = G) : WK Try.prog 0 (stackAt tkC 0) (tkS p0.s p0.ok [] (n0 : Int)).den (EndsT (endI G)) := by
  have hok := cfT_ok (tn3_ok hR.eq)
  refine WK.rec' (fun (q : Rd × List Chg × Nat) => tkS q.1.s q.1.ok (q.2.1.map chD) (q.2.2 : Int)) (fun q => q.1.s.length ≤ 65536 ∧ q.2.1.length + q.2.2 ≤ 4000 ∧ (∀ c ∈ q.2.1, Chg.ok c) ∧ goI q.2.2 q.2.1 q.1 = G) (fun q => q.2.2) ?_ (p0, [], n0) ⟨hp0, by simpa using hn0, by simp, hG⟩
  rintro ⟨⟨s, ok⟩, os, n⟩ ⟨hs, hlen, hos, hg⟩ ih
  simp only at hs hlen hos hg ih ⊢
  have hoL : okL os := ⟨by omega, hos⟩
  cases n with
  | zero =>
    simp only [goI] at hg
    cases ok with
    | false =>
      have hE := endI_no (g := G) (.inl (by rw [← hg]))
      exact WK.fin hok 1000 0 [(16, RV.d (DV.bool false)), (64, RV.d (DV.bool true)), (2, RV.d (DV.lst 4 [] false))] [] [(RV.d (DV.bool false), RV.d (DV.bool false)), (RV.d (DV.bool true), RV.d (DV.bool true)), (RV.d (DV.lst 0 [] true), RV.d (DV.lst 4 [] false))] rfl (by kernel_rfl : runEnd (cfT (tn3 R)) true _ 1000 0 _ _ (tkS s false (os.map chD) 0) = some (RV.tup [RV.d (DV.lst 4 [] false), RV.d (DV.int Go.IntKind.i64 (7))], [], _, _)) trivial (by refine ⟨?_, ?_, ?_, trivial⟩ <;> (first | exact le_bool rfl | exact nil_leD)) ⟨by rw [hE]; rfl, rfl⟩
    | true =>
      by_cases he : s = []
      · cases hm : mayL os with
        | false =>
          have hE := endI_no (g := G) (.inr (.inr (by rw [← hg]; exact hm)))
          exact WK.fin hok 1000 0 [(16, RV.d (DV.bool false)), (58, RV.d (DV.bool false)), (60, RV.d (DV.bool false)), (62, RV.d (DV.int Go.IntKind.i64 (2))), (64, RV.d (DV.bool true)), (2, RV.d (DV.lst 4 [] false))] [isL (DV.lst 4 (os.map chD) false)] [(RV.d (DV.bool false), RV.d (DV.bool false)), (RV.d (DV.bool !s == []), RV.d (DV.bool false)), (RV.d (DV.bool (match !true with | true => true | false => false)), RV.d (DV.bool false)), (RV.d (DV.int Go.IntKind.i64 (if Plain.mayL (unL (DV.lst (4) (os.map chD) false)) = true then 0 else 2)), RV.d (DV.int Go.IntKind.i64 (2))), (RV.d (DV.bool true), RV.d (DV.bool true)), (RV.d (DV.lst 0 [] true), RV.d (DV.lst 4 [] false))] rfl (by kernel_rfl : runEnd (cfT (tn3 R)) true _ 1000 0 _ _ (tkS s true (os.map chD) 0) = some (RV.tup [RV.d (DV.lst 4 [] false), RV.d (DV.int Go.IntKind.i64 (7))], [], _, _)) ⟨(by exact isL_chL hoL), trivial⟩ (by refine ⟨?_, ?_, ?_, ?_, ?_, ?_, trivial⟩ <;> (first | exact le_bool rfl | exact nil_leD | exact ovD_K2 hm | exact le_bool (by rw [he]; rfl))) ⟨by rw [hE]; rfl, rfl⟩
        | true =>
          have hE : endI G = some os := by rw [← hg]; unfold endI; rw [if_pos ⟨rfl, he, hm⟩]
          exact WK.fin hok 1000 0 [(16, RV.d (DV.bool false)), (58, RV.d (DV.bool false)), (60, RV.d (DV.bool false)), (62, RV.d (DV.int Go.IntKind.i64 (0))), (64, RV.d (DV.bool false))] [isL (DV.lst 4 (os.map chD) false)] [(RV.d (DV.bool false), RV.d (DV.bool false)), (RV.d (DV.bool !s == []), RV.d (DV.bool false)), (RV.d (DV.bool (match !true with | true => true | false => false)), RV.d (DV.bool false)), (RV.d (DV.int Go.IntKind.i64 (if Plain.mayL (unL (DV.lst (4) (os.map chD) false)) = true then 0 else 2)), RV.d (DV.int Go.IntKind.i64 (0))), (RV.d (DV.bool false), RV.d (DV.bool false))] rfl (by kernel_rfl : runEnd (cfT (tn3 R)) true _ 1000 0 _ _ (tkS s true (os.map chD) 0) = some (RV.tup [RV.d (DV.lst 4 (os.map chD) false), RV.d (DV.int Go.IntKind.i64 (0))], [], _, _)) ⟨(by exact isL_chL hoL), trivial⟩ (by refine ⟨?_, ?_, ?_, ?_, ?_, trivial⟩ <;> (first | exact le_bool rfl | exact ovD_K0 hm | exact le_bool (by rw [he]; rfl))) ⟨by rw [hE]; rfl, rfl⟩
      · have hE := endI_no (g := G) (.inr (.inl (by rw [← hg]; exact he)))
        exact WK.fin hok 1000 0 [(16, RV.d (DV.bool false)), (58, RV.d (DV.bool true)), (60, RV.d (DV.bool true)), (64, RV.d (DV.bool true)), (2, RV.d (DV.lst 4 [] false))] [] [(RV.d (DV.bool false), RV.d (DV.bool false)), (RV.d (DV.bool !s == []), RV.d (DV.bool true)), (RV.d (DV.bool (match !true with | true => true | false => true)), RV.d (DV.bool true)), (RV.d (DV.bool true), RV.d (DV.bool true)), (RV.d (DV.lst 0 [] true), RV.d (DV.lst 4 [] false))] rfl (by kernel_rfl : runEnd (cfT (tn3 R)) true _ 1000 0 _ _ (tkS s true (os.map chD) 0) = some (RV.tup [RV.d (DV.lst 4 [] false), RV.d (DV.int Go.IntKind.i64 (7))], [], _, _)) trivial (by refine ⟨?_, ?_, ?_, ?_, ?_, trivial⟩ <;> (first | exact le_bool rfl | exact nil_leD | exact le_bool (by simpa using he))) ⟨by rw [hE]; rfl, rfl⟩
  | succ m =>
    cases ok with
    | false =>
      have hE := endI_no (g := G) (.inl (by rw [← hg]; simp [goI]))
      exact WK.fin hok 1000 0 [(16, RV.d (DV.bool true)), (64, RV.d (DV.bool true)), (2, RV.d (DV.lst 4 [] false))] [] [(RV.d (DV.bool (decide (0 < (Nat.cast (R := Int) (m + 1))))), RV.d (DV.bool true)), (RV.d (DV.bool true), RV.d (DV.bool true)), (RV.d (DV.lst 0 [] true), RV.d (DV.lst 4 [] false))] rfl (by kernel_rfl : runEnd (cfT (tn3 R)) true _ 1000 0 _ _ (tkS s false (os.map chD) ((m + 1 : Nat) : Int)) = some (RV.tup [RV.d (DV.lst 4 [] false), RV.d (DV.int Go.IntKind.i64 (7))], [], _, _)) trivial (by refine ⟨?_, ?_, ?_, trivial⟩ <;> (first | exact le_bool (decide_eq_true (by omega)) | exact le_bool rfl | exact nil_leD)) ⟨by rw [hE]; rfl, rfl⟩
    | true =>
      simp only [goI, if_true] at hg
      obtain ⟨a, hra⟩ : ∃ a, R ⟨s, true⟩ = a := ⟨_, rfl⟩
      obtain ⟨b, hrb⟩ : ∃ b, R a.2 = b := ⟨_, rfl⟩
      obtain ⟨c, hrc⟩ : ∃ c, R b.2 = c := ⟨_, rfl⟩
      obtain ⟨d, hrd⟩ : ∃ d, R c.2 = d := ⟨_, rfl⟩
      have hit := hR.it ⟨s, true⟩
      have l1 := hR.len ⟨s, true⟩
      have l2 := hR.len a.2
      have l3 := hR.len b.2
      have l4 := hR.len c.2
      have f2 := hR.wf a.2
      have f3 := hR.wf b.2
      have f4 := hR.wf c.2
      rw [hra] at hit l1
      rw [hrb] at hit l2 f2
      rw [hrc] at hit l3 f3
      rw [hrd] at hit l4 f4
      simp only at l1
      have r1 : a.2.s.length ≤ 65536 := by omega
      have r2 : b.2.s.length ≤ 65536 := by omega
      have r3 : c.2.s.length ≤ 65536 := by omega
      rw [hit] at hg
      have hnext := ih (⟨d.2.s, d.2.ok && (txtI a.1).isSome⟩, os ++ [⟨if d.2.ok then (txtI a.1).getD [] else [], b.1, c.1, d.1⟩], m) ⟨by simp only; omega, by simp only [List.length_append, List.length_singleton]; omega, fun x hx => by
        rcases List.mem_append.1 hx with hx | hx
        · exact hos x hx
        · simp only [List.mem_singleton] at hx; rw [hx]; exact ⟨⟨f2.1, f3.1, f4.1⟩, by simp only; omega, by simp only; omega, by simp only; omega⟩, hg⟩ (by simp only; omega)
      simp only [List.map_append, List.map_cons, List.map_nil] at hnext
      obtain ⟨out, hout⟩ : ∃ o, os.map chD = o := ⟨_, rfl⟩
      have houl : out.length ≤ 65536 := by rw [← hout, List.length_map]; omega
      rw [hout] at hnext ⊢
      cases hd : d.2.ok with
      | false =>
        rw [hd] at hnext
        refine WK.segA hok 1000 0 [(16, RV.d (DV.bool true)), (21, RV.d (DV.int Go.IntKind.i64 (Nat.cast (R := Int) m))), (31, RV.d (DV.bool false)), (43, RV.d (DV.bool false))] [] [1, 4, 6, 7, 8] [true, true, true, true, decide (List.length s ≤ 65536), true, true, true, true, decide (List.length (R { s := s, ok := true }).snd.s ≤ 65536), true, true, true, true, decide (List.length (R { s := (R { s := s, ok := true }).snd.s, ok := (R { s := s, ok := true }).snd.ok }).snd.s ≤ 65536), true, true, true, true, decide (List.length (R { s := (R { s := (R { s := s, ok := true }).snd.s, ok := (R { s := s, ok := true }).snd.ok }).snd.s, ok := (R { s := (R { s := s, ok := true }).snd.s, ok := (R { s := s, ok := true }).snd.ok }).snd.ok }).snd.s ≤ 65536), decide ((out.length + [DV.agg [DV.str ([] : List UInt8), rD (R { s := (R { s := s, ok := true }).snd.s, ok := (R { s := s, ok := true }).snd.ok }).fst, rD (R { s := (R { s := (R { s := s, ok := true }).snd.s, ok := (R { s := s, ok := true }).snd.ok }).snd.s, ok := (R { s := (R { s := s, ok := true }).snd.s, ok := (R { s := s, ok := true }).snd.ok }).snd.ok }).fst, rD (R { s := (R { s := (R { s := (R { s := s, ok := true }).snd.s, ok := (R { s := s, ok := true }).snd.ok }).snd.s, ok := (R { s := (R { s := s, ok := true }).snd.s, ok := (R { s := s, ok := true }).snd.ok }).snd.ok }).snd.s, ok := (R { s := (R { s := (R { s := s, ok := true }).snd.s, ok := (R { s := s, ok := true }).snd.ok }).snd.s, ok := (R { s := (R { s := s, ok := true }).snd.s, ok := (R { s := s, ok := true }).snd.ok }).snd.ok }).snd.ok }).fst]].length) * 88 ≤ 2 ^ 38)] [(RV.d (DV.bool (decide (0 < (Nat.cast (R := Int) (m + 1))))), RV.d (DV.bool true)), (RV.d (DV.bool (R { s := (R { s := (R { s := (R { s := s, ok := true }).snd.s, ok := (R { s := s, ok := true }).snd.ok }).snd.s, ok := (R { s := (R { s := s, ok := true }).snd.s, ok := (R { s := s, ok := true }).snd.ok }).snd.ok }).snd.s, ok := (R { s := (R { s := (R { s := s, ok := true }).snd.s, ok := (R { s := s, ok := true }).snd.ok }).snd.s, ok := (R { s := (R { s := s, ok := true }).snd.s, ok := (R { s := s, ok := true }).snd.ok }).snd.ok }).snd.ok }).snd.2), RV.d (DV.bool false)), (RV.d (DV.bool false), RV.d (DV.bool false)), (RV.d (DV.int Go.IntKind.i64 (Go.IntKind.i64.wrap ((Nat.cast (R := Int) (m + 1)) - 1))), RV.d (DV.int Go.IntKind.i64 (Nat.cast (R := Int) m)))] rfl (by kernel_rfl : runSegA (cfT (tn3 R)) 1000 0 _ _ _ _ (tkS s true out ((m + 1 : Nat) : Int)) = some (stackAt tkC 0, tkS (R (R (R (R ⟨s, true⟩).2).2).2).2.s false (out ++ [chD ⟨[], (R (R ⟨s, true⟩).2).1, (R (R (R ⟨s, true⟩).2).2).1, (R (R (R (R ⟨s, true⟩).2).2).2).1⟩]) (m : Int), _, _)) (by refine ⟨?_, ?_, ?_, ?_, ?_, ?_, ?_, ?_, ?_, ?_, ?_, ?_, ?_, ?_, ?_, ?_, ?_, ?_, ?_, ?_, ?_, trivial⟩ <;> (first | rfl | exact decide_eq_true hs | (with_reducible exact bd_appD houl) | (refine decide_eq_true ?_; show (R ⟨s, true⟩).2.s.length ≤ 65536; rw [hra]; exact r1) | (refine decide_eq_true ?_; show (R (R ⟨s, true⟩).2).2.s.length ≤ 65536; rw [hra, hrb]; exact r2) | (refine decide_eq_true ?_; show (R (R (R ⟨s, true⟩).2).2).2.s.length ≤ 65536; rw [hra, hrb, hrc]; exact r3) | exact bd_appD houl | (rw [hra, ha]; rfl))) (by refine ⟨?_, ?_, ?_, ?_, trivial⟩ <;> (first | exact le_bool (decide_eq_true (by omega)) | exact le_bool rfl | (refine le_bool ?_; show (R (R (R (R ⟨s, true⟩).2).2).2).2.ok = _; rw [hra, hrb, hrc, hrd]; exact hd) | (refine .of_eq (congrArg (fun z : Int => RV.d (.int .i64 z)) ?_); rw [i64_in _ (by omega)]; omega))) ?_
        rw [hra, hrb, hrc, hrd]
        exact hnext
      | true =>
        by_cases h1 : a.1.length = 1
        · obtain ⟨v, ha⟩ : ∃ v, a.1 = [v] := List.length_eq_one_iff.1 h1
          by_cases hk : v.k = 2
          · have ht : txtI a.1 = some v.s := by rw [ha]; simp [txtI, hk]
            rw [hd, ht] at hnext
            refine WK.segA hok 1000 0 [(16, RV.d (DV.bool true)), (21, RV.d (DV.int Go.IntKind.i64 (Nat.cast (R := Int) m))), (31, RV.d (DV.bool true)), (35, RV.d (DV.bool true)), (39, RV.iptr (DV.agg [DV.int Go.IntKind.u8 v.1, DV.int Go.IntKind.i64 v.2, DV.str v.3]) 0), (42, RV.d (DV.bool true)), (43, RV.d (DV.bool true)), (46, RV.iptr (DV.agg [DV.int Go.IntKind.u8 v.1, DV.int Go.IntKind.i64 v.2, DV.str v.3]) 0)] [] [1, 4, 6, 7, 8] [true, true, true, true, decide (List.length s ≤ 65536), true, true, true, true, decide (List.length (R { s := s, ok := true }).snd.s ≤ 65536), true, true, true, true, decide (List.length (R { s := (R { s := s, ok := true }).snd.s, ok := (R { s := s, ok := true }).snd.ok }).snd.s ≤ 65536), true, true, true, true, decide (List.length (R { s := (R { s := (R { s := s, ok := true }).snd.s, ok := (R { s := s, ok := true }).snd.ok }).snd.s, ok := (R { s := (R { s := s, ok := true }).snd.s, ok := (R { s := s, ok := true }).snd.ok }).snd.ok }).snd.s ≤ 65536), decide ((0 : Int) ≤ 0 ∧ 0 < (Nat.cast (R := Int) (List.map vD (R { s := s, ok := true }).fst).length)), decide ((0 : Int) ≤ 0 ∧ 0 < (Nat.cast (R := Int) (List.map vD (R { s := s, ok := true }).fst).length)), decide ((out.length + [DV.agg [(vD v).cells.getD 2 DV.nilp, rD (R { s := (R { s := s, ok := true }).snd.s, ok := (R { s := s, ok := true }).snd.ok }).fst, rD (R { s := (R { s := (R { s := s, ok := true }).snd.s, ok := (R { s := s, ok := true }).snd.ok }).snd.s, ok := (R { s := (R { s := s, ok := true }).snd.s, ok := (R { s := s, ok := true }).snd.ok }).snd.ok }).fst, rD (R { s := (R { s := (R { s := (R { s := s, ok := true }).snd.s, ok := (R { s := s, ok := true }).snd.ok }).snd.s, ok := (R { s := (R { s := s, ok := true }).snd.s, ok := (R { s := s, ok := true }).snd.ok }).snd.ok }).snd.s, ok := (R { s := (R { s := (R { s := s, ok := true }).snd.s, ok := (R { s := s, ok := true }).snd.ok }).snd.s, ok := (R { s := (R { s := s, ok := true }).snd.s, ok := (R { s := s, ok := true }).snd.ok }).snd.ok }).snd.ok }).fst]].length) * 88 ≤ 2 ^ 38)] [(RV.d (DV.bool (decide (0 < (Nat.cast (R := Int) (m + 1))))), RV.d (DV.bool true)), (RV.d (DV.bool (R { s := (R { s := (R { s := (R { s := s, ok := true }).snd.s, ok := (R { s := s, ok := true }).snd.ok }).snd.s, ok := (R { s := (R { s := s, ok := true }).snd.s, ok := (R { s := s, ok := true }).snd.ok }).snd.ok }).snd.s, ok := (R { s := (R { s := (R { s := s, ok := true }).snd.s, ok := (R { s := s, ok := true }).snd.ok }).snd.s, ok := (R { s := (R { s := s, ok := true }).snd.s, ok := (R { s := s, ok := true }).snd.ok }).snd.ok }).snd.ok }).snd.2), RV.d (DV.bool true)), (RV.d (DV.bool ((Nat.cast (R := Int) (List.map vD (R { s := s, ok := true }).1).length) == 1)), RV.d (DV.bool true)), (RV.iptr ((List.map vD (R { s := s, ok := true }).fst).getD (Int.toNat (0)) DV.nilp) 0, RV.iptr (DV.agg [DV.int Go.IntKind.u8 v.1, DV.int Go.IntKind.i64 v.2, DV.str v.3]) 0), (RV.d (DV.bool (v.1 == 2)), RV.d (DV.bool true)), (RV.d (DV.bool true), RV.d (DV.bool true)), (RV.iptr ((List.map vD (R { s := s, ok := true }).fst).getD (Int.toNat (0)) DV.nilp) 0, RV.iptr (DV.agg [DV.int Go.IntKind.u8 v.1, DV.int Go.IntKind.i64 v.2, DV.str v.3]) 0), (RV.d (DV.int Go.IntKind.i64 (Go.IntKind.i64.wrap ((Nat.cast (R := Int) (m + 1)) - 1))), RV.d (DV.int Go.IntKind.i64 (Nat.cast (R := Int) m)))] rfl (by kernel_rfl : runSegA (cfT (tn3 R)) 1000 0 _ _ _ _ (tkS s true out ((m + 1 : Nat) : Int)) = some (stackAt tkC 0, tkS (R (R (R (R ⟨s, true⟩).2).2).2).2.s true (out ++ [chD ⟨v.s, (R (R ⟨s, true⟩).2).1, (R (R (R ⟨s, true⟩).2).2).1, (R (R (R (R ⟨s, true⟩).2).2).2).1⟩]) (m : Int), _, _)) (by refine ⟨?_, ?_, ?_, ?_, ?_, ?_, ?_, ?_, ?_, ?_, ?_, ?_, ?_, ?_, ?_, ?_, ?_, ?_, ?_, ?_, ?_, ?_, ?_, trivial⟩ <;> (first | rfl | exact decide_eq_true hs | (with_reducible exact bd_appD houl) | (refine decide_eq_true ?_; show (R ⟨s, true⟩).2.s.length ≤ 65536; rw [hra]; exact r1) | (refine decide_eq_true ?_; show (R (R ⟨s, true⟩).2).2.s.length ≤ 65536; rw [hra, hrb]; exact r2) | (refine decide_eq_true ?_; show (R (R (R ⟨s, true⟩).2).2).2.s.length ≤ 65536; rw [hra, hrb, hrc]; exact r3) | exact bd_appD houl | (rw [hra, ha]; rfl))) (by refine ⟨?_, ?_, ?_, ?_, ?_, ?_, ?_, ?_, trivial⟩ <;> (first | exact le_bool (decide_eq_true (by omega)) | exact le_bool rfl | (refine le_bool ?_; show (R (R (R (R ⟨s, true⟩).2).2).2).2.ok = _; rw [hra, hrb, hrc, hrd]; exact hd) | (refine le_bool ?_; rw [hra, ha]; rfl) | (refine .of_eq ?_; rw [hra, ha]; rfl) | exact le_bool (by rw [hk]; rfl) | (refine .of_eq (congrArg (fun z : Int => RV.d (.int .i64 z)) ?_); rw [i64_in _ (by omega)]; omega))) ?_
            rw [hra, hrb, hrc, hrd]
            exact hnext
          · have ht : txtI a.1 = none := by rw [ha]; simp [txtI, hk]
            rw [hd, ht] at hnext
            refine WK.segA hok 1000 0 [(16, RV.d (DV.bool true)), (21, RV.d (DV.int Go.IntKind.i64 (Nat.cast (R := Int) m))), (31, RV.d (DV.bool true)), (35, RV.d (DV.bool true)), (39, RV.iptr (DV.agg [DV.int Go.IntKind.u8 v.1, DV.int Go.IntKind.i64 v.2, DV.str v.3]) 0), (42, RV.d (DV.bool false)), (43, RV.d (DV.bool false))] [] [1, 4, 6, 7, 8] [true, true, true, true, decide (List.length s ≤ 65536), true, true, true, true, decide (List.length (R { s := s, ok := true }).snd.s ≤ 65536), true, true, true, true, decide (List.length (R { s := (R { s := s, ok := true }).snd.s, ok := (R { s := s, ok := true }).snd.ok }).snd.s ≤ 65536), true, true, true, true, decide (List.length (R { s := (R { s := (R { s := s, ok := true }).snd.s, ok := (R { s := s, ok := true }).snd.ok }).snd.s, ok := (R { s := (R { s := s, ok := true }).snd.s, ok := (R { s := s, ok := true }).snd.ok }).snd.ok }).snd.s ≤ 65536), decide ((0 : Int) ≤ 0 ∧ 0 < (Nat.cast (R := Int) (List.map vD (R { s := s, ok := true }).fst).length)), decide ((out.length + [DV.agg [DV.str ([] : List UInt8), rD (R { s := (R { s := s, ok := true }).snd.s, ok := (R { s := s, ok := true }).snd.ok }).fst, rD (R { s := (R { s := (R { s := s, ok := true }).snd.s, ok := (R { s := s, ok := true }).snd.ok }).snd.s, ok := (R { s := (R { s := s, ok := true }).snd.s, ok := (R { s := s, ok := true }).snd.ok }).snd.ok }).fst, rD (R { s := (R { s := (R { s := (R { s := s, ok := true }).snd.s, ok := (R { s := s, ok := true }).snd.ok }).snd.s, ok := (R { s := (R { s := s, ok := true }).snd.s, ok := (R { s := s, ok := true }).snd.ok }).snd.ok }).snd.s, ok := (R { s := (R { s := (R { s := s, ok := true }).snd.s, ok := (R { s := s, ok := true }).snd.ok }).snd.s, ok := (R { s := (R { s := s, ok := true }).snd.s, ok := (R { s := s, ok := true }).snd.ok }).snd.ok }).snd.ok }).fst]].length) * 88 ≤ 2 ^ 38)] [(RV.d (DV.bool (decide (0 < (Nat.cast (R := Int) (m + 1))))), RV.d (DV.bool true)), (RV.d (DV.bool (R { s := (R { s := (R { s := (R { s := s, ok := true }).snd.s, ok := (R { s := s, ok := true }).snd.ok }).snd.s, ok := (R { s := (R { s := s, ok := true }).snd.s, ok := (R { s := s, ok := true }).snd.ok }).snd.ok }).snd.s, ok := (R { s := (R { s := (R { s := s, ok := true }).snd.s, ok := (R { s := s, ok := true }).snd.ok }).snd.s, ok := (R { s := (R { s := s, ok := true }).snd.s, ok := (R { s := s, ok := true }).snd.ok }).snd.ok }).snd.ok }).snd.2), RV.d (DV.bool true)), (RV.d (DV.bool ((Nat.cast (R := Int) (List.map vD (R { s := s, ok := true }).1).length) == 1)), RV.d (DV.bool true)), (RV.iptr ((List.map vD (R { s := s, ok := true }).fst).getD (Int.toNat (0)) DV.nilp) 0, RV.iptr (DV.agg [DV.int Go.IntKind.u8 v.1, DV.int Go.IntKind.i64 v.2, DV.str v.3]) 0), (RV.d (DV.bool (v.1 == 2)), RV.d (DV.bool false)), (RV.d (DV.bool false), RV.d (DV.bool false)), (RV.d (DV.int Go.IntKind.i64 (Go.IntKind.i64.wrap ((Nat.cast (R := Int) (m + 1)) - 1))), RV.d (DV.int Go.IntKind.i64 (Nat.cast (R := Int) m)))] rfl (by kernel_rfl : runSegA (cfT (tn3 R)) 1000 0 _ _ _ _ (tkS s true out ((m + 1 : Nat) : Int)) = some (stackAt tkC 0, tkS (R (R (R (R ⟨s, true⟩).2).2).2).2.s false (out ++ [chD ⟨[], (R (R ⟨s, true⟩).2).1, (R (R (R ⟨s, true⟩).2).2).1, (R (R (R (R ⟨s, true⟩).2).2).2).1⟩]) (m : Int), _, _)) (by refine ⟨?_, ?_, ?_, ?_, ?_, ?_, ?_, ?_, ?_, ?_, ?_, ?_, ?_, ?_, ?_, ?_, ?_, ?_, ?_, ?_, ?_, ?_, trivial⟩ <;> (first | rfl | exact decide_eq_true hs | (with_reducible exact bd_appD houl) | (refine decide_eq_true ?_; show (R ⟨s, true⟩).2.s.length ≤ 65536; rw [hra]; exact r1) | (refine decide_eq_true ?_; show (R (R ⟨s, true⟩).2).2.s.length ≤ 65536; rw [hra, hrb]; exact r2) | (refine decide_eq_true ?_; show (R (R (R ⟨s, true⟩).2).2).2.s.length ≤ 65536; rw [hra, hrb, hrc]; exact r3) | exact bd_appD houl | (rw [hra, ha]; rfl))) (by refine ⟨?_, ?_, ?_, ?_, ?_, ?_, ?_, trivial⟩ <;> (first | exact le_bool (decide_eq_true (by omega)) | exact le_bool rfl | (refine le_bool ?_; show (R (R (R (R ⟨s, true⟩).2).2).2).2.ok = _; rw [hra, hrb, hrc, hrd]; exact hd) | (refine le_bool ?_; rw [hra, ha]; rfl) | (refine .of_eq ?_; rw [hra, ha]; rfl) | exact le_bool (beq_eq_false_iff_ne.2 hk) | (refine .of_eq (congrArg (fun z : Int => RV.d (.int .i64 z)) ?_); rw [i64_in _ (by omega)]; omega))) ?_
            rw [hra, hrb, hrc, hrd]
            exact hnext
        · have ht : txtI a.1 = none := by
            match hq : a.1, h1 with
            | [], _ => rfl
            | [v], h1 => simp at h1
            | _ :: _ :: _, _ => rfl
          rw [hd, ht] at hnext
          refine WK.segA hok 1000 0 [(16, RV.d (DV.bool true)), (21, RV.d (DV.int Go.IntKind.i64 (Nat.cast (R := Int) m))), (31, RV.d (DV.bool true)), (35, RV.d (DV.bool false)), (43, RV.d (DV.bool false))] [] [1, 4, 6, 7, 8] [true, true, true, true, decide (List.length s ≤ 65536), true, true, true, true, decide (List.length (R { s := s, ok := true }).snd.s ≤ 65536), true, true, true, true, decide (List.length (R { s := (R { s := s, ok := true }).snd.s, ok := (R { s := s, ok := true }).snd.ok }).snd.s ≤ 65536), true, true, true, true, decide (List.length (R { s := (R { s := (R { s := s, ok := true }).snd.s, ok := (R { s := s, ok := true }).snd.ok }).snd.s, ok := (R { s := (R { s := s, ok := true }).snd.s, ok := (R { s := s, ok := true }).snd.ok }).snd.ok }).snd.s ≤ 65536), decide ((out.length + [DV.agg [DV.str ([] : List UInt8), rD (R { s := (R { s := s, ok := true }).snd.s, ok := (R { s := s, ok := true }).snd.ok }).fst, rD (R { s := (R { s := (R { s := s, ok := true }).snd.s, ok := (R { s := s, ok := true }).snd.ok }).snd.s, ok := (R { s := (R { s := s, ok := true }).snd.s, ok := (R { s := s, ok := true }).snd.ok }).snd.ok }).fst, rD (R { s := (R { s := (R { s := (R { s := s, ok := true }).snd.s, ok := (R { s := s, ok := true }).snd.ok }).snd.s, ok := (R { s := (R { s := s, ok := true }).snd.s, ok := (R { s := s, ok := true }).snd.ok }).snd.ok }).snd.s, ok := (R { s := (R { s := (R { s := s, ok := true }).snd.s, ok := (R { s := s, ok := true }).snd.ok }).snd.s, ok := (R { s := (R { s := s, ok := true }).snd.s, ok := (R { s := s, ok := true }).snd.ok }).snd.ok }).snd.ok }).fst]].length) * 88 ≤ 2 ^ 38)] [(RV.d (DV.bool (decide (0 < (Nat.cast (R := Int) (m + 1))))), RV.d (DV.bool true)), (RV.d (DV.bool (R { s := (R { s := (R { s := (R { s := s, ok := true }).snd.s, ok := (R { s := s, ok := true }).snd.ok }).snd.s, ok := (R { s := (R { s := s, ok := true }).snd.s, ok := (R { s := s, ok := true }).snd.ok }).snd.ok }).snd.s, ok := (R { s := (R { s := (R { s := s, ok := true }).snd.s, ok := (R { s := s, ok := true }).snd.ok }).snd.s, ok := (R { s := (R { s := s, ok := true }).snd.s, ok := (R { s := s, ok := true }).snd.ok }).snd.ok }).snd.ok }).snd.2), RV.d (DV.bool true)), (RV.d (DV.bool ((Nat.cast (R := Int) (List.map vD (R { s := s, ok := true }).1).length) == 1)), RV.d (DV.bool false)), (RV.d (DV.bool false), RV.d (DV.bool false)), (RV.d (DV.int Go.IntKind.i64 (Go.IntKind.i64.wrap ((Nat.cast (R := Int) (m + 1)) - 1))), RV.d (DV.int Go.IntKind.i64 (Nat.cast (R := Int) m)))] rfl (by kernel_rfl : runSegA (cfT (tn3 R)) 1000 0 _ _ _ _ (tkS s true out ((m + 1 : Nat) : Int)) = some (stackAt tkC 0, tkS (R (R (R (R ⟨s, true⟩).2).2).2).2.s false (out ++ [chD ⟨[], (R (R ⟨s, true⟩).2).1, (R (R (R ⟨s, true⟩).2).2).1, (R (R (R (R ⟨s, true⟩).2).2).2).1⟩]) (m : Int), _, _)) (by refine ⟨?_, ?_, ?_, ?_, ?_, ?_, ?_, ?_, ?_, ?_, ?_, ?_, ?_, ?_, ?_, ?_, ?_, ?_, ?_, ?_, ?_, trivial⟩ <;> (first | rfl | exact decide_eq_true hs | (with_reducible exact bd_appD houl) | (refine decide_eq_true ?_; show (R ⟨s, true⟩).2.s.length ≤ 65536; rw [hra]; exact r1) | (refine decide_eq_true ?_; show (R (R ⟨s, true⟩).2).2.s.length ≤ 65536; rw [hra, hrb]; exact r2) | (refine decide_eq_true ?_; show (R (R (R ⟨s, true⟩).2).2).2.s.length ≤ 65536; rw [hra, hrb, hrc]; exact r3) | exact bd_appD houl | (rw [hra, ha]; rfl))) (by refine ⟨?_, ?_, ?_, ?_, ?_, trivial⟩ <;> (first | exact le_bool (decide_eq_true (by omega)) | exact le_bool rfl | (refine le_bool ?_; show (R (R (R (R ⟨s, true⟩).2).2).2).2.ok = _; rw [hra, hrb, hrc, hrd]; exact hd) | (refine le_bool (beq_eq_false_iff_ne.2 ?_); rw [hra, List.length_map]; omega) | (refine .of_eq (congrArg (fun z : Int => RV.d (.int .i64 z)) ?_); rw [i64_in _ (by omega)]; omega))) ?_
          rw [hra, hrb, hrc, hrd]
          exact hnext
theorem take_c (s : Bs) (hs : s.length ≤ 65536) : C Try.prog 21 [.d (.str s)] [] (fun r o => r = .tup [.d (chL (tkR (takeC s)).1), .d (.int .i64 (tkR (takeC s)).2)] ∧ o = []) := by
  have hok := cfT_ok (tn3_ok (R := rowI) rfl)
  refine C_of_run (fn := Try.f21) (body := tkC) true (by kernel_rfl) (by kernel_rfl) (by kernel_rfl) ?_
  rw [← takeI_eq]
  have hc := cntI_len ⟨s, true⟩
  simp only at hc
  have hloop := tk_loop rowIs _ (cntI ⟨s, true⟩).2 (cntI ⟨s, true⟩).1 (by simp only [cntI]; split <;> omega) (by omega) rfl
  refine WK.segA hok 1000 0 [] [(7, 250, 46, 4)] [1, 4, 6, 7, 8] [true, true, decide (List.length s ≤ 65536)] [] rfl (by kernel_rfl : runSegA (cfT (tn3 rowI)) 1000 0 _ _ _ _ (ini 66 [.d (.str s)] []) = some (stackAt tkC 0, tkS (cntI ⟨s, true⟩).2.s (cntI ⟨s, true⟩).2.ok [] (((cntI ⟨s, true⟩).1 : Nat) : Int), _, _)) (by refine ⟨?_, ?_, ?_, trivial⟩ <;> (first | rfl | exact decide_eq_true hs)) trivial ?_
  exact hloop
end Go.Proofs.Ytljfolepmkcjlaa
