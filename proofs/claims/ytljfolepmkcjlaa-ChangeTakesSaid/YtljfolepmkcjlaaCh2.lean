/-
  Plain facts about a changeset's bytes: what each of the two readings comes to. No program in sight.
-/
import Derived.Test.YtljfolepmkcjlaaCh0
namespace Go.Proofs.Ytljfolepmkcjlaa.Plain

/-- a record with its length ahead, and what is left behind it -/
def partN (s : Bs) : Option (List Val × Bs) :=
  if (takeN s).2.2 ≠ 0 then none else
  if (takeN s).1 > (s.drop (takeN s).2.1).length then none else
  match takeRow ((s.drop (takeN s).2.1).take (takeN s).1) with
  | none => none
  | some l => some (l, (s.drop (takeN s).2.1).drop (takeN s).1)
/-- a change and what is left behind it -/
def chgN (s : Bs) : Option (Chg × Bs) :=
  match partN s with
  | none => none
  | some (t, s1) => match partN s1 with
    | none => none
    | some (k, s2) => match partN s2 with
      | none => none
      | some (o, s3) => match partN s3 with
        | none => none
        | some (n, s4) => match t with
          | [v] => if v.k = 2 then some (⟨v.s, k, o, n⟩, s4) else none
          | _ => none
def chgsN : Nat → Bs → Option (List Chg × Bs)
  | 0, s => some ([], s)
  | m + 1, s => match chgN s with
    | none => none
    | some (x, r) => (chgsN m r).map fun p => (x :: p.1, p.2)
/-- the changeset that bytes are -/
def takeC (s : Bs) : Option (List Chg) :=
  if (takeN s).2.2 ≠ 0 ∨ (takeN s).1 > 1000 then none else
  match chgsN (takeN s).1 (s.drop (takeN s).2.1) with
  | none => none
  | some (l, r) => if r = [] ∧ mayL l = true then some l else none

/-! The same, step by step, with a flag that tells whether all went well. -/
structure Rd where
  s : Bs
  ok : Bool
def cntI (p : Rd) : Nat × Rd := (if (takeN p.s).1 ≤ 4000 then (takeN p.s).1 else 4000, ⟨p.s.drop (takeN p.s).2.1, p.ok && decide ((takeN p.s).2.2 = 0) && decide ((takeN p.s).1 ≤ 4000)⟩)
/-- a row of so many bytes -/
def rowJ (n : Nat) (p : Rd) : List Val × Rd := ((takeRow (p.s.take n)).getD [], ⟨p.s.drop n, p.ok && decide (n ≤ p.s.length) && (takeRow (p.s.take n)).isSome⟩)
def rowI (p : Rd) : List Val × Rd := rowJ (cntI p).1 (cntI p).2
/-- the text that a row of one text has -/
def txtI : List Val → Option Bs
  | [v] => if v.k = 2 then some v.s else none
  | _ => none
def itI (p : Rd) : Chg × Rd :=
  let a := rowI p
  let b := rowI a.2
  let c := rowI b.2
  let d := rowI c.2
  (⟨if d.2.ok then (txtI a.1).getD [] else [], b.1, c.1, d.1⟩, ⟨d.2.s, d.2.ok && (txtI a.1).isSome⟩)
def goI : Nat → List Chg → Rd → List Chg × Rd
  | 0, out, p => (out, p)
  | m + 1, out, p => if p.ok then goI m (out ++ [(itI p).1]) (itI p).2 else (out, p)
def takeI (s : Bs) : Option (List Chg) :=
  let c := cntI ⟨s, true⟩
  let g := goI c.1 [] c.2
  if g.2.ok = true ∧ g.2.s = [] ∧ mayL g.1 = true then some g.1 else none

theorem takeRow_short {s : Bs} {l : List Val} (h : takeRow s = some l) : s.length ≤ 4000 := by
  unfold takeRow at h
  split at h
  · cases h
  · omega
theorem rowI_bad {p : Rd} (h : p.ok = false) : (rowI p).2.ok = false := by simp [rowI, rowJ, cntI, h]
theorem itI_bad {p : Rd} (h : p.ok = false) : (itI p).2.ok = false := by
  have h1 := rowI_bad h
  have h2 := rowI_bad h1
  have h3 := rowI_bad h2
  have h4 := rowI_bad h3
  simp [itI, h4]
theorem rowI_some {s : Bs} {l : List Val} {r : Bs} (h : partN s = some (l, r)) : rowI ⟨s, true⟩ = (l, ⟨r, true⟩) := by
  unfold partN at h
  split at h
  · cases h
  · rename_i h0
    split at h
    · cases h
    · rename_i h1
      split at h
      · cases h
      · rename_i q hq
        injection h with h; injection h with e1 e2; subst e1; subst e2
        have hlen := takeRow_short hq
        rw [List.length_take] at hlen
        have h4 : (takeN s).1 ≤ 4000 := by omega
        have h0' : (takeN s).2.2 = 0 := by simpa using h0
        have h1' : (takeN s).1 ≤ s.length - (takeN s).2.1 := by rw [List.length_drop] at h1; omega
        simp only [rowI, rowJ, cntI, if_true, hq, h0', h4, h1', List.length_drop, decide_true, Bool.and_true, Option.getD_some, Option.isSome_some]
theorem rowI_none {s : Bs} (h : partN s = none) : (rowI ⟨s, true⟩).2.ok = false := by
  unfold partN at h
  simp only [rowI, rowJ, cntI]
  split at h
  · rename_i h0; simp [h0]
  · split at h
    · rename_i h1
      by_cases h4 : (takeN s).1 ≤ 4000
      · rw [if_pos h4]
        have : ¬ (takeN s).1 ≤ (s.drop (takeN s).2.1).length := by omega
        rw [decide_eq_false this]; simp
      · simp [h4]
    · split at h
      · rename_i hq
        by_cases h4 : (takeN s).1 ≤ 4000
        · rw [if_pos h4, hq]; simp
        · simp [h4]
      · cases h
theorem itI_some {s : Bs} {x : Chg} {r : Bs} (h : chgN s = some (x, r)) : itI ⟨s, true⟩ = (x, ⟨r, true⟩) := by
  unfold chgN at h
  split at h
  · cases h
  · rename_i t s1 h1
    split at h
    · cases h
    · rename_i k s2 h2
      split at h
      · cases h
      · rename_i o s3 h3
        split at h
        · cases h
        · rename_i n s4 h4
          split at h
          · rename_i v
            split at h
            · rename_i hv
              injection h with h; injection h with e1 e2; subst e1; subst e2
              simp [itI, rowI_some h1, rowI_some h2, rowI_some h3, rowI_some h4, txtI, hv]
            · cases h
          · cases h
theorem itI_none {s : Bs} (h : chgN s = none) : (itI ⟨s, true⟩).2.ok = false := by
  unfold chgN at h
  simp only [itI]
  split at h
  · rename_i h1
    have g1 := rowI_none h1
    have g2 := rowI_bad g1
    have g3 := rowI_bad g2
    rw [rowI_bad g3]; rfl
  · rename_i t s1 h1
    rw [rowI_some h1]
    split at h
    · rename_i h2
      have g2 := rowI_none h2
      have g3 := rowI_bad g2
      simp only
      rw [rowI_bad g3]; rfl
    · rename_i k s2 h2
      simp only [rowI_some h2]
      split at h
      · rename_i h3
        rw [rowI_bad (rowI_none h3)]; rfl
      · rename_i o s3 h3
        simp only [rowI_some h3]
        split at h
        · rename_i h4
          rw [rowI_none h4]; rfl
        · rename_i n s4 h4
          simp only [rowI_some h4, Bool.true_and]
          split at h
          · rename_i v
            split at h
            · cases h
            · rename_i hv; simp [txtI, hv]
          · rename_i hne
            match t, hne with
            | [], _ => rfl
            | [v], hne => exact absurd rfl (hne v)
            | _ :: _ :: _, _ => rfl
theorem goI_bad : ∀ (m : Nat) {p : Rd} (out : List Chg), p.ok = false → (goI m out p).2.ok = false
  | 0, _, _, h => h
  | m + 1, _, _, h => by simp only [goI]; rw [if_neg (by simp [h])]; exact h
theorem goI_some : ∀ (m : Nat) {s : Bs} {l : List Chg} {r : Bs} (out : List Chg), chgsN m s = some (l, r) → goI m out ⟨s, true⟩ = (out ++ l, ⟨r, true⟩) ∧ l.length = m
  | 0, s, l, r, out, h => by simp only [chgsN, Option.some.injEq, Prod.mk.injEq] at h; obtain ⟨rfl, rfl⟩ := h; simp [goI]
  | m + 1, s, l, r, out, h => by
    simp only [chgsN] at h
    split at h
    · cases h
    · rename_i x r1 hx
      cases hq : chgsN m r1 with
      | none => rw [hq] at h; cases h
      | some q =>
        rw [hq] at h
        simp only [Option.map_some, Option.some.injEq, Prod.mk.injEq] at h
        obtain ⟨rfl, rfl⟩ := h
        obtain ⟨g1, g2⟩ := goI_some m (s := r1) (l := q.1) (r := q.2) (out ++ [x]) hq
        simp only [goI, if_true, itI_some hx]
        rw [g1]
        simp [g2]
theorem goI_none : ∀ (m : Nat) {s : Bs} (out : List Chg), chgsN m s = none → (goI m out ⟨s, true⟩).2.ok = false
  | 0, s, out, h => by simp [chgsN] at h
  | m + 1, s, out, h => by
    simp only [chgsN] at h
    simp only [goI, if_true]
    split at h
    · rename_i hx
      exact goI_bad m _ (itI_none hx)
    · rename_i x r1 hx
      rw [itI_some hx]
      cases hq : chgsN m r1 with
      | none => exact goI_none m _ hq
      | some q => rw [hq] at h; cases h
theorem takeC_bad {s : Bs} (h : (takeN s).2.2 ≠ 0 ∨ (takeN s).1 > 1000) : takeC s = none := if_pos h
theorem takeC_none {s : Bs} (h : ¬ ((takeN s).2.2 ≠ 0 ∨ (takeN s).1 > 1000)) (hq : chgsN (takeN s).1 (s.drop (takeN s).2.1) = none) : takeC s = none := by
  unfold takeC; rw [if_neg h, hq]
theorem takeC_some {s : Bs} {l : List Chg} {r : Bs} (h : ¬ ((takeN s).2.2 ≠ 0 ∨ (takeN s).1 > 1000)) (hq : chgsN (takeN s).1 (s.drop (takeN s).2.1) = some (l, r)) : takeC s = if r = [] ∧ mayL l = true then some l else none := by
  unfold takeC; rw [if_neg h, hq]
theorem takeI_bad {s : Bs} (h : (goI (cntI ⟨s, true⟩).1 [] (cntI ⟨s, true⟩).2).2.ok = false) : takeI s = none := if_neg (by rw [h]; simp)
theorem takeI_eq (s : Bs) : takeI s = takeC s := by
  by_cases h0 : (takeN s).2.2 = 0
  · by_cases h4 : (takeN s).1 ≤ 4000
    · have hc : cntI ⟨s, true⟩ = ((takeN s).1, ⟨s.drop (takeN s).2.1, true⟩) := by simp [cntI, h0, h4]
      cases hq : chgsN (takeN s).1 (s.drop (takeN s).2.1) with
      | none =>
        rw [takeI_bad (by rw [hc]; exact goI_none _ [] hq)]
        by_cases h1 : (takeN s).1 > 1000
        · rw [takeC_bad (.inr h1)]
        · rw [takeC_none (by rintro (h | h); exact h h0; exact h1 h) hq]
      | some q =>
        obtain ⟨l, r⟩ := q
        obtain ⟨g1, g2⟩ := goI_some _ [] hq
        have hI : takeI s = if r = [] ∧ mayL l = true then some l else none := by
          unfold takeI
          simp only [hc, g1, List.nil_append, true_and]
        rw [hI]
        by_cases h1 : (takeN s).1 > 1000
        · rw [takeC_bad (.inr h1), if_neg]
          rintro ⟨_, hm⟩
          simp only [mayL, Bool.and_eq_true, decide_eq_true_eq] at hm
          omega
        · rw [takeC_some (by rintro (h | h); exact h h0; exact h1 h) hq]
    · rw [takeC_bad (.inr (by omega)), takeI_bad (goI_bad _ [] (by simp [cntI, h4]))]
  · rw [takeC_bad (.inl h0), takeI_bad (goI_bad _ [] (by simp [cntI, h0]))]

theorem takeRow_wf {s : Bs} {l : List Val} (h : takeRow s = some l) : (∀ v ∈ l, v.wf) ∧ l.length ≤ 16 := by
  obtain ⟨h1, h2⟩ := takeRow_spec h
  exact ⟨h2, (chkRow_zero (putRow_ok (by rw [h1])).1).1⟩
theorem rowI_wf (p : Rd) : (∀ v ∈ (rowI p).1, v.wf) ∧ (rowI p).1.length ≤ 16 := by
  simp only [rowI, rowJ]
  cases h : takeRow ((cntI p).2.s.take (cntI p).1) with
  | none => exact ⟨by simp, by simp⟩
  | some l => exact takeRow_wf h
end Go.Proofs.Ytljfolepmkcjlaa.Plain
