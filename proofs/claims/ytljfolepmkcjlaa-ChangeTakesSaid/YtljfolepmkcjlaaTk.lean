/-
  Plain facts on how record.Take goes: tags first, then bodies, with a flag.
-/
import Derived.Test.YtljfolepmkcjlaaRec2
namespace Go.Proofs.Ytljfolepmkcjlaa.Plain

def TGood (c : Nat) (r : Bs) (i : Nat) (ok : Bool) (l : Bs) (ts : List Nat) : Prop :=
  ts.length = i ∧ i ≤ c ∧ l.length ≤ r.length ∧ (∀ t ∈ ts, t < 18446744073709551616) ∧ takeTags c r = if ok then (takeTags (c - i) l).map (fun p => (ts ++ p.1, p.2)) else none

theorem takeN_lt (l : Bs) : (takeN l).1 < 18446744073709551616 := by
  by_cases h : (takeN l).2.2 = 0
  · exact (takeN_ok l h).1
  · rw [(takeN_bad l h).1]; omega

theorem TGood.start (c : Nat) (r : Bs) : TGood c r 0 true r [] := ⟨rfl, by omega, by omega, by simp, by cases takeTags c r <;> simp⟩
theorem TGood.step {c : Nat} {r : Bs} {i : Nat} {ok : Bool} {l : Bs} {ts : List Nat} (h : TGood c r i ok l ts) (hi : i < c) :
    TGood c r (i + 1) (ok && decide ((takeN l).2.2 = 0)) (l.drop (takeN l).2.1) (ts ++ [(takeN l).1]) := by
  obtain ⟨h1, h2, h3, h4, h5⟩ := h
  refine ⟨by simp [h1], by omega, by rw [List.length_drop]; omega, ?_, ?_⟩
  · intro t ht
    rcases List.mem_append.1 ht with ht | ht
    · exact h4 t ht
    · rw [List.mem_singleton.1 ht]; exact takeN_lt l
  · rw [h5]
    cases ok with
    | false => simp
    | true =>
      have e : c - i = (c - (i + 1)) + 1 := by omega
      simp only [if_true, Bool.true_and]
      rw [e]
      simp only [takeTags]
      by_cases hx : (takeN l).2.2 = 0
      · simp only [hx, if_true, decide_true]
        cases takeTags (c - (i + 1)) (l.drop (takeN l).2.1) <;> simp
      · simp [hx]
theorem TGood.fin {c : Nat} {r : Bs} {ok : Bool} {l : Bs} {ts : List Nat} (h : TGood c r c ok l ts) : takeTags c r = if ok then some (ts, l) else none := by
  rw [h.2.2.2.2, Nat.sub_self]
  simp [takeTags]

def BGood (ts : List Nat) (R : Option (List Val × Bs)) (k : Nat) (ok : Bool) (l : Bs) (row : List Val) : Prop :=
  row.length = k ∧ k ≤ ts.length ∧ R = if ok then (takeBodies (ts.drop k) l).map (fun q => (row ++ q.1, q.2)) else none

theorem BGood.start (ts : List Nat) (ok : Bool) (l : Bs) : BGood ts (if ok then takeBodies ts l else none) 0 ok l [] :=
  ⟨rfl, by omega, by cases ok <;> simp⟩

/-- one body by the program's way -/
def bodyVal (t : Nat) (l : Bs) : Val :=
  if t = 0 then ⟨0, 0, []⟩ else if t = 1 then ⟨1, unfoldN (takeN l).1, []⟩ else ⟨2 + (t % 2 : Nat), 0, l.take (min (min (t / 2 - 1) 4000) l.length)⟩
def bodyOk (t : Nat) (l : Bs) : Bool :=
  if t = 0 then true else if t = 1 then decide ((takeN l).2.2 = 0) else decide (min (t / 2 - 1) 4000 ≤ min l.length 1000)
def bodyLeft (t : Nat) (l : Bs) : Bs :=
  if t = 0 then l else if t = 1 then l.drop (takeN l).2.1 else l.drop (min (min (t / 2 - 1) 4000) l.length)

theorem takeBody_eq (t : Nat) (l : Bs) : takeBody t l = if bodyOk t l then some (bodyVal t l, bodyLeft t l) else none := by
  unfold takeBody bodyOk bodyVal bodyLeft
  by_cases h0 : t = 0
  · simp [h0]
  · by_cases h1 : t = 1
    · subst h1
      by_cases h2 : (takeN l).2.2 = 0 <;> simp [h2]
    · simp only [h0, h1, if_false]
      by_cases h2 : t / 2 - 1 > 1000 ∨ t / 2 - 1 > l.length
      · rw [if_pos h2, if_neg (by simp; omega)]
      · rw [if_neg h2, if_pos (by simp; omega)]
        have e : min (min (t / 2 - 1) 4000) l.length = t / 2 - 1 := by omega
        rw [e]

theorem BGood.step {ts : List Nat} {R : Option (List Val × Bs)} {k : Nat} {ok : Bool} {l : Bs} {row : List Val} (h : BGood ts R k ok l row) (hk : k < ts.length) :
    BGood ts R (k + 1) (ok && bodyOk ts[k] l) (bodyLeft ts[k] l) (row ++ [bodyVal ts[k] l]) := by
  obtain ⟨h1, h2, h3⟩ := h
  refine ⟨by simp [h1], hk, ?_⟩
  rw [h3]
  cases ok with
  | false => simp
  | true =>
    rw [List.drop_eq_getElem_cons hk]
    simp only [if_true, Bool.true_and, takeBodies, takeBody_eq]
    cases hb : bodyOk ts[k] l with
    | false => simp
    | true =>
      simp only [if_true]
      cases takeBodies (ts.drop (k + 1)) (bodyLeft ts[k] l) <;> simp

theorem BGood.fin {ts : List Nat} {R : Option (List Val × Bs)} {k : Nat} {ok : Bool} {l : Bs} {row : List Val} (h : BGood ts R k ok l row) (hk : k = ts.length) : R = if ok then some (row, l) else none := by
  subst hk
  rw [h.2.2, List.drop_length]
  simp [takeBodies]

theorem bodyLeft_le (t : Nat) (l : Bs) : (bodyLeft t l).length ≤ l.length := by
  unfold bodyLeft; split
  · omega
  · split <;> (rw [List.length_drop]; omega)

theorem body_long (t : Nat) (l : Bs) (h : 2 ≤ t) : bodyVal t l = ⟨2 + (t % 2 : Nat), 0, l.take (min (min (t / 2 - 1) 4000) l.length)⟩ ∧ bodyOk t l = decide (min (t / 2 - 1) 4000 ≤ min l.length 1000) ∧ bodyLeft t l = l.drop (min (min (t / 2 - 1) 4000) l.length) := by
  unfold bodyVal bodyOk bodyLeft
  simp only [show t ≠ 0 by omega, show t ≠ 1 by omega, if_false, and_self]

theorem takePart_cons (c : UInt8) (r : Bs) (h : c.toNat ≤ 16) : takePart (c :: r) = match takeTags c.toNat r with
    | none => none
    | some p => takeBodies p.1 p.2 := by
  simp only [takePart]
  rw [if_neg (by omega)]
  cases takeTags c.toNat r <;> rfl

/-- what Take answers, by flag and rest -/
theorem takeRow_flag {c : UInt8} {r : Bs} (h16 : c.toNat ≤ 16) (hl : (c :: r).length ≤ 4000) {ok1 ok : Bool} {l1 l : Bs} {ts : List Nat} {row : List Val}
    (h1 : takeTags c.toNat r = if ok1 then some (ts, l1) else none) (h2 : (if ok1 then takeBodies ts l1 else none) = if ok then some (row, l) else none) :
    takeRow (c :: r) = if ok && decide (l = []) then some row else none := by
  have hp : takePart (c :: r) = if ok then some (row, l) else none := by
    rw [takePart_cons c r h16, h1, ← h2]
    cases ok1 <;> rfl
  unfold takeRow
  rw [if_neg (by omega), hp]
  cases ok with
  | false => rfl
  | true =>
    cases l with
    | nil => rfl
    | cons a b => rfl
theorem takeRow_nil : takeRow [] = none := by simp [takeRow, takePart]
theorem takeRow_many {c : UInt8} {r : Bs} (h : 16 < c.toNat) : takeRow (c :: r) = none := by
  unfold takeRow
  split
  · rfl
  · simp [takePart, h]
theorem takeRow_long {s : Bs} (h : 4000 < s.length) : takeRow s = none := by unfold takeRow; rw [if_pos h]
end Go.Proofs.Ytljfolepmkcjlaa.Plain
