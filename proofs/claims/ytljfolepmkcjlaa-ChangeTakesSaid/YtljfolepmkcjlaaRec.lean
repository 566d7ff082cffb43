/-
  Plain facts about rows and their records (layers 7 and 9). No program in sight.
-/
import Derived.Test.YtljfolepmkcjlaaNum
namespace Go.Proofs.Ytljfolepmkcjlaa.Plain

/-- A value: kind, number, text. -/
structure Val where
  k : Int
  n : Int
  s : Bs
  deriving DecidableEq

/-- the numbers fit their kinds -/
def Val.wf (v : Val) : Prop := 0 ≤ v.k ∧ v.k ≤ 255 ∧ -9223372036854775808 ≤ v.n ∧ v.n ≤ 9223372036854775807

def chk (v : Val) : Int :=
  if v.k > 3 ∨ (v.k ≠ 1 ∧ v.n ≠ 0) ∨ (v.k < 2 ∧ v.s ≠ []) then 2 else if v.s.length > 1000 then 3 else 0

def chkAll : List Val → Int
  | [] => 0
  | v :: r => if chk v ≠ 0 then chk v else chkAll r

def chkRow (l : List Val) : Int := if l.length > 16 then 90 else chkAll l

def tagN (v : Val) : Nat :=
  if v.k = 1 then 1 else if v.k = 2 then 2 * v.s.length + 2 else if v.k = 3 then 2 * v.s.length + 3 else 0
def bodyL (v : Val) : Bs := if v.k = 1 then putN (foldI v.n) else v.s
def tagsL (l : List Val) : Bs := l.flatMap fun v => putN (tagN v)
def bodiesL (l : List Val) : Bs := l.flatMap bodyL
def allL (l : List Val) : Bs := UInt8.ofNat l.length :: (tagsL l ++ bodiesL l)

def putRow (l : List Val) : Bs × Int :=
  if chkRow l ≠ 0 then ([], chkRow l) else if (allL l).length > 4000 then ([], 3) else (allL l, 0)
def sizeRow (l : List Val) : Nat := if chkRow l ≠ 0 then 0 else (allL l).length

def takeTags : Nat → Bs → Option (List Nat × Bs)
  | 0, s => some ([], s)
  | k + 1, s => if (takeN s).2.2 = 0 then (takeTags k (s.drop (takeN s).2.1)).map fun p => ((takeN s).1 :: p.1, p.2) else none

def takeBody (t : Nat) (s : Bs) : Option (Val × Bs) :=
  if t = 0 then some (⟨0, 0, []⟩, s) else
  if t = 1 then (if (takeN s).2.2 = 0 then some (⟨1, unfoldN (takeN s).1, []⟩, s.drop (takeN s).2.1) else none) else
  if t / 2 - 1 > 1000 ∨ t / 2 - 1 > s.length then none else
  some (⟨2 + (t % 2 : Nat), 0, s.take (t / 2 - 1)⟩, s.drop (t / 2 - 1))

def takeBodies : List Nat → Bs → Option (List Val × Bs)
  | [], s => some ([], s)
  | t :: r, s => match takeBody t s with
    | none => none
    | some p => (takeBodies r p.2).map fun q => (p.1 :: q.1, q.2)

/-- a row and what is left behind it -/
def takePart (s : Bs) : Option (List Val × Bs) :=
  match s with
  | [] => none
  | c :: r => if c.toNat > 16 then none else
    match takeTags c.toNat r with
    | none => none
    | some p => takeBodies p.1 p.2

def takeRow (s : Bs) : Option (List Val) :=
  if s.length > 4000 then none else
  match takePart s with
  | some (l, []) => some l
  | _ => none

theorem chkAll_zero {l : List Val} : chkAll l = 0 ↔ ∀ v ∈ l, chk v = 0 := by
  induction l with
  | nil => simp [chkAll]
  | cons v r ih =>
    simp only [chkAll]
    by_cases h : chk v = 0
    · simp [h, ih]
    · simp [h]

theorem chk_zero {v : Val} (h : chk v = 0) : v.k ≤ 3 ∧ (v.k = 1 ∨ v.n = 0) ∧ (2 ≤ v.k ∨ v.s = []) ∧ v.s.length ≤ 1000 := by
  unfold chk at h
  split at h
  · omega
  · rename_i h1
    split at h
    · omega
    · refine ⟨by omega, ?_, ?_, by omega⟩
      · by_cases h3 : v.k = 1
        · exact .inl h3
        · right; by_cases h4 : v.n = 0
          · exact h4
          · exact absurd (.inr (.inl ⟨h3, h4⟩)) h1
      · by_cases h3 : v.k < 2
        · right; by_cases h4 : v.s = []
          · exact h4
          · exact absurd (.inr (.inr ⟨h3, h4⟩)) h1
        · left; omega

theorem chkRow_zero {l : List Val} (h : chkRow l = 0) : l.length ≤ 16 ∧ ∀ v ∈ l, chk v = 0 := by
  unfold chkRow at h
  split at h
  · omega
  · exact ⟨by omega, chkAll_zero.1 h⟩

theorem tagN_lt (v : Val) (h : chk v = 0) : tagN v < 18446744073709551616 := by
  obtain ⟨_, _, _, h4⟩ := chk_zero h
  unfold tagN; split <;> (try split) <;> (try split) <;> omega

theorem takeTags_put (l : List Val) (h : ∀ v ∈ l, chk v = 0) (r : Bs) : takeTags l.length (tagsL l ++ r) = some (l.map tagN, r) := by
  induction l with
  | nil => rfl
  | cons v q ih =>
    have hv := tagN_lt v (h v (by simp))
    have hs : tagsL (v :: q) ++ r = putN (tagN v) ++ (tagsL q ++ r) := by simp [tagsL]
    rw [hs, List.length_cons]
    simp only [takeTags, takeN_putN _ hv, if_true]
    rw [List.drop_left, ih (fun x hx => h x (by simp [hx]))]
    simp

theorem takeBody_put (v : Val) (h : chk v = 0) (hw : v.wf) (r : Bs) : takeBody (tagN v) (bodyL v ++ r) = some (v, r) := by
  obtain ⟨h1, h2, h3, h4⟩ := chk_zero h
  obtain ⟨w1, w2, w3, w4⟩ := hw
  obtain ⟨k, n, s⟩ := v
  simp only at *
  unfold takeBody tagN bodyL
  simp only
  by_cases e1 : k = 1
  · subst e1
    have hf := foldI_lt n w3 w4
    rcases h3 with h3 | h3
    · omega
    · subst h3
      simp [takeN_putN _ hf, unfold_fold]
  · rcases h2 with h2 | h2
    · exact absurd h2 e1
    · subst h2
      by_cases e2 : k = 2
      · subst e2
        simp only [show ¬((2 : Int) = 1) by omega, if_false, if_true]
        rw [if_neg (by omega), if_neg (by omega), if_neg (by simp; omega)]
        have e : (2 * s.length + 2) / 2 - 1 = s.length := by omega
        have e' : (2 * s.length + 2) % 2 = 0 := by omega
        rw [e, e', List.take_left, List.drop_left]
        rfl
      · by_cases e3 : k = 3
        · subst e3
          simp only [show ¬((3 : Int) = 1) by omega, show ¬((3 : Int) = 2) by omega, if_false, if_true]
          rw [if_neg (by omega), if_neg (by omega), if_neg (by simp; omega)]
          have e : (2 * s.length + 3) / 2 - 1 = s.length := by omega
          have e' : (2 * s.length + 3) % 2 = 1 := by omega
          rw [e, e', List.take_left, List.drop_left]
          rfl
        · have hk : k = 0 := by omega
          subst hk
          rcases h3 with h3 | h3
          · omega
          · subst h3; simp

theorem takeBodies_put (l : List Val) (h : ∀ v ∈ l, chk v = 0) (hw : ∀ v ∈ l, v.wf) (r : Bs) : takeBodies (l.map tagN) (bodiesL l ++ r) = some (l, r) := by
  induction l with
  | nil => rfl
  | cons v q ih =>
    have hs : bodiesL (v :: q) ++ r = bodyL v ++ (bodiesL q ++ r) := by simp [bodiesL]
    rw [hs, List.map_cons]
    simp only [takeBodies, takeBody_put v (h v (by simp)) (hw v (by simp)), ih (fun x hx => h x (by simp [hx])) (fun x hx => hw x (by simp [hx]))]
    rfl

theorem takePart_put (l : List Val) (h : chkRow l = 0) (hw : ∀ v ∈ l, v.wf) (r : Bs) : takePart (allL l ++ r) = some (l, r) := by
  obtain ⟨h1, h2⟩ := chkRow_zero h
  have e : (UInt8.ofNat l.length).toNat = l.length := by rw [UInt8.toNat_ofNat']; omega
  simp only [allL, takePart, List.cons_append]
  rw [e, if_neg (by omega), List.append_assoc, takeTags_put l h2]
  exact takeBodies_put l h2 hw r

theorem putRow_ok {l : List Val} (h : (putRow l).2 = 0) : chkRow l = 0 ∧ (allL l).length ≤ 4000 ∧ (putRow l).1 = allL l := by
  unfold putRow at *
  split at h
  · rename_i h1; exact absurd h h1
  · rename_i h1
    split at h
    · simp at h
    · rename_i h2
      rw [if_neg h1, if_neg h2]
      exact ⟨by omega, by omega, rfl⟩

theorem takeRow_put {l : List Val} (h : (putRow l).2 = 0) (hw : ∀ v ∈ l, v.wf) : takeRow (putRow l).1 = some l := by
  obtain ⟨h1, h2, h3⟩ := putRow_ok h
  have := takePart_put l h1 hw []
  rw [List.append_nil] at this
  unfold takeRow
  rw [h3, if_neg (by omega), this]

/-- a record is the beginning of no other one -/
theorem putRow_prefix {a b : List Val} (ha : (putRow a).2 = 0) (hb : (putRow b).2 = 0) (wa : ∀ v ∈ a, v.wf) (wb : ∀ v ∈ b, v.wf)
    (hp : (putRow a).1 <+: (putRow b).1) : (putRow a).1 = (putRow b).1 := by
  obtain ⟨a1, a2, a3⟩ := putRow_ok ha
  obtain ⟨b1, b2, b3⟩ := putRow_ok hb
  obtain ⟨r, hr⟩ := hp
  rw [a3, b3] at *
  have h1 := takePart_put a a1 wa r
  have h2 := takePart_put b b1 wb []
  rw [List.append_nil, ← hr, h1] at h2
  injection h2 with h2
  injection h2 with h3 h4
  subst h4
  simpa using hr

theorem takeTags_spec (k : Nat) : ∀ (s : Bs) (ts : List Nat) (r : Bs), takeTags k s = some (ts, r) → ts.length = k ∧ s = (ts.flatMap putN) ++ r ∧ ∀ t ∈ ts, t < 18446744073709551616 := by
  induction k with
  | zero =>
    intro s ts r h
    simp only [takeTags, Option.some.injEq, Prod.mk.injEq] at h
    obtain ⟨rfl, rfl⟩ := h
    simp
  | succ k ih =>
    intro s ts r h
    simp only [takeTags] at h
    split at h
    · rename_i h0
      cases hq : takeTags k (s.drop (takeN s).2.1) with
      | none => rw [hq] at h; simp at h
      | some p =>
        rw [hq] at h
        simp only [Option.map_some, Option.some.injEq, Prod.mk.injEq] at h
        obtain ⟨rfl, rfl⟩ := h
        obtain ⟨i1, i2, i3⟩ := ih _ _ _ hq
        obtain ⟨t1, t2, t3, t4, t5⟩ := takeN_ok s h0
        refine ⟨by simp [i1], ?_, ?_⟩
        · rw [List.flatMap_cons, List.append_assoc, ← i2, ← t5, List.take_append_drop]
        · intro t ht
          simp only [List.mem_cons] at ht
          rcases ht with rfl | ht
          · exact t1
          · exact i3 t ht
    · simp at h

theorem takeBody_spec {t : Nat} {s : Bs} {v : Val} {r : Bs} (h : takeBody t s = some (v, r)) : chk v = 0 ∧ tagN v = t ∧ s = bodyL v ++ r ∧ v.wf := by
  unfold takeBody at h
  by_cases h0 : t = 0
  · rw [if_pos h0] at h
    simp only [Option.some.injEq, Prod.mk.injEq] at h
    obtain ⟨rfl, rfl⟩ := h
    subst h0
    exact ⟨by simp [chk], by simp [tagN], by simp [bodyL], by simp [Val.wf]⟩
  · rw [if_neg h0] at h
    by_cases h1 : t = 1
    · rw [if_pos h1] at h
      split at h
      · rename_i h2
        simp only [Option.some.injEq, Prod.mk.injEq] at h
        obtain ⟨rfl, rfl⟩ := h
        obtain ⟨t1, t2, t3, t4, t5⟩ := takeN_ok s h2
        refine ⟨by simp [chk], by simp [tagN, h1], ?_, ?_⟩
        · simp only [bodyL, if_true, fold_unfold]
          rw [← t5, List.take_append_drop]
        · have := unfoldN_bd _ t1
          simp only [Val.wf]
          omega
      · simp at h
    · rw [if_neg h1] at h
      split at h
      · simp at h
      · rename_i h2
        simp only [Option.some.injEq, Prod.mk.injEq] at h
        obtain ⟨rfl, rfl⟩ := h
        have hl : (s.take (t / 2 - 1)).length = t / 2 - 1 := by rw [List.length_take]; omega
        rcases Nat.mod_two_eq_zero_or_one t with hm | hm
        · refine ⟨?_, ?_, ?_, ?_⟩
          · simp only [chk, hm, hl]
            rw [if_neg (by simp), if_neg (by omega)]
          · simp only [tagN, hm, hl]
            simp
            omega
          · simp [bodyL, hm]
          · simp [Val.wf, hm]
        · refine ⟨?_, ?_, ?_, ?_⟩
          · simp only [chk, hm, hl]
            rw [if_neg (by simp), if_neg (by omega)]
          · simp only [tagN, hm, hl]
            simp
            omega
          · simp [bodyL, hm]
          · simp [Val.wf, hm]

theorem takeBodies_spec (ts : List Nat) : ∀ (s : Bs) (l : List Val) (r : Bs), takeBodies ts s = some (l, r) → (∀ v ∈ l, chk v = 0) ∧ l.map tagN = ts ∧ s = bodiesL l ++ r ∧ ∀ v ∈ l, v.wf := by
  induction ts with
  | nil =>
    intro s l r h
    simp only [takeBodies, Option.some.injEq, Prod.mk.injEq] at h
    obtain ⟨rfl, rfl⟩ := h
    simp [bodiesL]
  | cons t ts ih =>
    intro s l r h
    simp only [takeBodies] at h
    cases hb : takeBody t s with
    | none => rw [hb] at h; simp at h
    | some p =>
      obtain ⟨v, r1⟩ := p
      rw [hb] at h
      simp only at h
      cases hq : takeBodies ts r1 with
      | none => rw [hq] at h; simp at h
      | some q =>
        rw [hq] at h
        simp only [Option.map_some, Option.some.injEq, Prod.mk.injEq] at h
        obtain ⟨rfl, rfl⟩ := h
        obtain ⟨i1, i2, i3, i4⟩ := ih _ _ _ hq
        obtain ⟨b1, b2, b3, b4⟩ := takeBody_spec hb
        refine ⟨?_, by simp [b2, i2], ?_, ?_⟩
        · intro x hx; simp only [List.mem_cons] at hx
          rcases hx with rfl | hx
          · exact b1
          · exact i1 x hx
        · rw [b3, i3]; simp [bodiesL]
        · intro x hx; simp only [List.mem_cons] at hx
          rcases hx with rfl | hx
          · exact b4
          · exact i4 x hx

theorem takeRow_spec {s : Bs} {l : List Val} (h : takeRow s = some l) : putRow l = (s, 0) ∧ ∀ v ∈ l, v.wf := by
  unfold takeRow at h
  split at h
  · simp at h
  · rename_i hlen
    cases hp : takePart s with
    | none => rw [hp] at h; simp at h
    | some p =>
      obtain ⟨l', r⟩ := p
      rw [hp] at h
      cases r with
      | cons a b => simp at h
      | nil =>
        simp only [Option.some.injEq] at h
        subst h
        unfold takePart at hp
        cases s with
        | nil => simp at hp
        | cons c r =>
          simp only at hp
          split at hp
          · simp at hp
          · rename_i hc
            cases ht : takeTags c.toNat r with
            | none => rw [ht] at hp; simp at hp
            | some q =>
              obtain ⟨ts, r1⟩ := q
              rw [ht] at hp
              simp only at hp
              obtain ⟨t1, t2, t3⟩ := takeTags_spec _ _ _ _ ht
              obtain ⟨b1, b2, b3, b4⟩ := takeBodies_spec _ _ _ _ hp
              rw [List.append_nil] at b3
              have hl : l'.length = c.toNat := by rw [← t1, ← b2, List.length_map]
              have hall : allL l' = c :: r := by
                unfold allL
                rw [hl, t2, b3]
                congr 1
                · simp
                · congr 1
                  rw [← b2, List.flatMap_map]
                  rfl
              have hchk : chkRow l' = 0 := by
                unfold chkRow
                rw [if_neg (by omega)]
                exact chkAll_zero.2 b1
              refine ⟨?_, b4⟩
              unfold putRow
              rw [if_neg (by simp [hchk]), hall, if_neg hlen]

theorem sizeRow_more (l : List Val) (v : Val) (h : sizeRow l ≠ 0) (h' : sizeRow (l ++ [v]) ≠ 0) : sizeRow l < sizeRow (l ++ [v]) := by
  unfold sizeRow at *
  by_cases h1 : chkRow l = 0 <;> by_cases h2 : chkRow (l ++ [v]) = 0 <;> simp only [h1, h2, ne_eq, not_true_eq_false, not_false_eq_true, if_true, if_false] at *
  have hp := putN_length_pos (tagN v)
  simp [allL, tagsL, bodiesL]
  omega

theorem bodyL_length_le (v : Val) (h : chk v = 0) : (bodyL v).length ≤ 1000 := by
  obtain ⟨_, _, _, h4⟩ := chk_zero h
  unfold bodyL
  split
  · have := putN_length_le (foldI v.n); omega
  · exact h4

theorem tagsL_length_le (l : List Val) : (tagsL l).length ≤ 9 * l.length := by
  induction l with
  | nil => simp [tagsL]
  | cons v r ih =>
    have := putN_length_le (tagN v)
    simp [tagsL] at *
    omega

theorem bodiesL_length_le (l : List Val) (h : ∀ v ∈ l, chk v = 0) : (bodiesL l).length ≤ 1000 * l.length := by
  induction l with
  | nil => simp [bodiesL]
  | cons v r ih =>
    have h1 := bodyL_length_le v (h v (by simp))
    have h2 := ih (fun x hx => h x (by simp [hx]))
    simp [bodiesL] at *
    omega
end Go.Proofs.Ytljfolepmkcjlaa.Plain
