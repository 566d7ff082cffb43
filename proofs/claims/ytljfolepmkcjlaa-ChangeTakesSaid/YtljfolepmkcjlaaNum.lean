/-
  Plain facts about the numbers' bytes (layer 1): putN, takeN, fold. No program in sight.
-/
import Derived.KernelRfl
namespace Go.Proofs.Ytljfolepmkcjlaa.Plain

abbrev Bs := List UInt8

/-- k digits to the base 128, the highest first, each with its high bit. -/
def hiK : Nat → Nat → Bs
  | 0, _ => []
  | k + 1, m => hiK k (m / 128) ++ [UInt8.ofNat (m % 128 + 128)]

/-- how many digits to the base 128 (fuel: 10 is enough below 2^64). -/
def digs : Nat → Nat → Nat
  | 0, _ => 0
  | f + 1, m => if m = 0 then 0 else digs f (m / 128) + 1

def putN (n : Nat) : Bs :=
  if n < 72057594037927936 then hiK (digs 10 (n / 128)) (n / 128) ++ [UInt8.ofNat (n % 128)]
  else hiK 8 (n / 256) ++ [UInt8.ofNat (n % 256)]

theorem hiK_zero (m : Nat) : hiK 0 m = [] := rfl
theorem hiK_succ (k m : Nat) : hiK (k + 1) m = hiK k (m / 128) ++ [UInt8.ofNat (m % 128 + 128)] := rfl

theorem hiK_length (k m : Nat) : (hiK k m).length = k := by
  induction k generalizing m with
  | zero => rfl
  | succ k ih => simp [hiK, ih]

theorem digs_le (f m : Nat) : digs f m ≤ f := by
  induction f generalizing m with
  | zero => simp [digs]
  | succ f ih =>
    simp only [digs]
    split
    · omega
    · have := ih (m / 128); omega

theorem digs_bound (f m : Nat) (h : m < 128 ^ f) : m < 128 ^ (digs f m) := by
  induction f generalizing m with
  | zero => simpa [digs] using h
  | succ f ih =>
    simp only [digs]
    split
    · subst_vars; simp
    · have h2 : m / 128 < 128 ^ f := by
        rw [Nat.pow_succ] at h; omega
      have := ih (m / 128) h2
      rw [Nat.pow_succ]; omega

theorem digs_low (f m : Nat) (hm : m ≠ 0) (h : m < 128 ^ f) : 0 < digs f m ∧ 128 ^ (digs f m - 1) ≤ m := by
  induction f generalizing m with
  | zero => simp at h; omega
  | succ f ih =>
    simp only [digs, if_neg hm]
    refine ⟨by omega, ?_⟩
    simp only [Nat.add_sub_cancel]
    by_cases h0 : m / 128 = 0
    · rw [h0]
      cases f <;> simp [digs] <;> omega
    · have h2 : m / 128 < 128 ^ f := by
        rw [Nat.pow_succ] at h; omega
      obtain ⟨h3, h4⟩ := ih (m / 128) h0 h2
      have e : 128 ^ digs f (m / 128) = 128 ^ (digs f (m / 128) - 1) * 128 := by
        rw [← Nat.pow_succ]; congr 1; omega
      rw [e]; omega

theorem digs_zero (f : Nat) : digs f 0 = 0 := by cases f <;> simp [digs]

/-- the number of digits is what it has to be -/
theorem digs_eq (f m k : Nat) (h : m < 128 ^ f) (h1 : m < 128 ^ k) (h2 : k = 0 ∨ 128 ^ (k - 1) ≤ m) : digs f m = k := by
  by_cases hm : m = 0
  · subst hm
    rw [digs_zero]
    rcases h2 with h2 | h2
    · omega
    · have : 0 < 128 ^ (k - 1) := Nat.pos_of_ne_zero (by simp); omega
  · obtain ⟨a, b⟩ := digs_low f m hm h
    have c := digs_bound f m h
    rcases Nat.lt_trichotomy (digs f m) k with hlt | he | hgt
    · rcases h2 with h2 | h2
      · omega
      · have : 128 ^ digs f m ≤ 128 ^ (k - 1) := Nat.pow_le_pow_right (by omega) (by omega)
        omega
    · exact he
    · have : 128 ^ k ≤ 128 ^ (digs f m - 1) := Nat.pow_le_pow_right (by omega) (by omega)
      omega

theorem digs_fuel (f g m : Nat) (h : m < 128 ^ f) (h' : m < 128 ^ g) : digs f m = digs g m := by
  by_cases h0 : m = 0
  · subst h0; rw [digs_zero, digs_zero]
  · exact digs_eq f m _ h (digs_bound g m h') (.inr (digs_low g m h0 h').2)

theorem digs_step (m : Nat) (h : m ≠ 0) (hb : m < 18446744073709551616) : digs 10 m = digs 10 (m / 128) + 1 := by
  have e : digs 10 m = digs 9 (m / 128) + 1 := by
    show digs (9 + 1) m = _
    simp only [digs, if_neg h]
  rw [e, digs_fuel 9 10 (m / 128) (by omega) (by omega)]

theorem putN_length (n : Nat) : (putN n).length = if n < 72057594037927936 then digs 10 (n / 128) + 1 else 9 := by
  unfold putN
  split <;> simp [hiK_length]

theorem putN_length_le (n : Nat) : (putN n).length ≤ 9 := by
  rw [putN_length]
  split
  · rename_i h
    have : digs 10 (n / 128) ≤ 8 := by
      have hb : n / 128 < 128 ^ 10 := by omega
      by_cases h0 : n / 128 = 0
      · rw [h0, digs_zero]; omega
      · obtain ⟨a, b⟩ := digs_low 10 (n / 128) h0 hb
        rcases Nat.lt_or_ge 8 (digs 10 (n / 128)) with hl | hl
        · have : 128 ^ 8 ≤ 128 ^ (digs 10 (n / 128) - 1) := Nat.pow_le_pow_right (by omega) (by omega)
          omega
        · exact hl
    omega
  · omega

theorem putN_length_pos (n : Nat) : 0 < (putN n).length := by
  rw [putN_length]; split <;> omega

/-- reading: how many bytes are gone through, the number so far; is it ended? -/
def scan : Nat → Nat → Bs → Nat × Nat × Bool
  | size, n, [] => (size, n, false)
  | size, n, c :: r =>
    if size = 8 then (9, n * 256 + c.toNat, true)
    else if c.toNat < 128 then (size + 1, n * 128 + c.toNat, true)
    else scan (size + 1) (n * 128 + (c.toNat - 128)) r

/-- the number, its size, the error (0: none, 10: short, 11: form). -/
def takeN (s : Bs) : Nat × Nat × Nat :=
  let r := scan 0 0 s
  if r.2.2 = false then (0, 0, 10) else
  if (putN r.2.1).length = r.1 then (r.2.1, r.1, 0) else (0, 0, 11)

def foldI (i : Int) : Nat := if 0 ≤ i then (2 * i).toNat else (2 * (-(i + 1)) + 1).toNat
def unfoldN (n : Nat) : Int := if n % 2 = 0 then (n / 2 : Nat) else -((n / 2 : Nat) : Int) - 1

theorem unfold_fold (i : Int) : unfoldN (foldI i) = i := by
  unfold foldI unfoldN
  split <;> split <;> omega

theorem fold_unfold (n : Nat) : foldI (unfoldN n) = n := by
  unfold foldI unfoldN
  split <;> split <;> omega

theorem foldI_lt (i : Int) (h1 : -9223372036854775808 ≤ i) (h2 : i ≤ 9223372036854775807) : foldI i < 18446744073709551616 := by
  unfold foldI; split <;> omega

theorem unfoldN_bd (n : Nat) (h : n < 18446744073709551616) : -9223372036854775808 ≤ unfoldN n ∧ unfoldN n ≤ 9223372036854775807 := by
  unfold unfoldN; split <;> omega

/-- what a scan that began in the middle has gone through -/
theorem scan_spec (s : Bs) (size n : Nat) (hs : size ≤ 8) (hn : n < 128 ^ size) :
    (scan size n s).2.2 = true →
      size < (scan size n s).1 ∧ (scan size n s).1 ≤ 9 ∧ (scan size n s).1 - size ≤ s.length ∧ (scan size n s).2.1 < 18446744073709551616 ∧
      hiK size n ++ s.take ((scan size n s).1 - size) =
        (if (scan size n s).1 = 9 then hiK 8 ((scan size n s).2.1 / 256) ++ [UInt8.ofNat ((scan size n s).2.1 % 256)]
         else hiK ((scan size n s).1 - 1) ((scan size n s).2.1 / 128) ++ [UInt8.ofNat ((scan size n s).2.1 % 128)]) := by
  induction s generalizing size n with
  | nil => simp [scan]
  | cons c r ih =>
    have hc := c.toNat_lt
    simp only [scan]
    by_cases h8 : size = 8
    · subst h8
      simp only [if_true]
      intro _
      refine ⟨by omega, by omega, by simp, by omega, ?_⟩
      simp only [show 9 - 8 = 1 from rfl, List.take_succ_cons, List.take_zero]
      congr 2
      · omega
      · apply UInt8.toNat_inj.1; simp
    · simp only [if_neg h8]
      by_cases hl : c.toNat < 128
      · simp only [if_pos hl]
        intro _
        have hp : 128 ^ size ≤ 128 ^ 7 := Nat.pow_le_pow_right (by omega) (by omega)
        refine ⟨by omega, by omega, by simp, by omega, ?_⟩
        rw [if_neg (by omega)]
        simp only [Nat.add_sub_cancel, Nat.add_sub_cancel_left, List.take_succ_cons, List.take_zero]
        congr 2
        · omega
        · apply UInt8.toNat_inj.1; simp; omega
      · simp only [if_neg hl]
        intro ht
        have hn' : n * 128 + (c.toNat - 128) < 128 ^ (size + 1) := by rw [Nat.pow_succ]; omega
        obtain ⟨h1, h2, h3, h4, h5⟩ := ih (size + 1) (n * 128 + (c.toNat - 128)) (by omega) hn' ht
        refine ⟨by omega, h2, by simp; omega, h4, ?_⟩
        rw [← h5]
        have e : (scan (size + 1) (n * 128 + (c.toNat - 128)) r).1 - size = (scan (size + 1) (n * 128 + (c.toNat - 128)) r).1 - (size + 1) + 1 := by omega
        rw [e, List.take_succ_cons]
        have e1 : (n * 128 + (c.toNat - 128)) / 128 = n := by omega
        have e2 : UInt8.ofNat ((n * 128 + (c.toNat - 128)) % 128 + 128) = c := by
          apply UInt8.toNat_inj.1
          rw [UInt8.toNat_ofNat']
          omega
        rw [hiK_succ, List.append_assoc, List.singleton_append, e1, e2]

/-- bytes that a number ends in: what was gone through is its putN just if the sizes are the same -/
theorem scan_put (s : Bs) (h : (scan 0 0 s).2.2 = true) :
    ((putN (scan 0 0 s).2.1).length = (scan 0 0 s).1 ↔ putN (scan 0 0 s).2.1 = s.take (scan 0 0 s).1) := by
  obtain ⟨h1, h2, h3, h4, h5⟩ := scan_spec s 0 0 (by omega) (by simp) h
  generalize scan 0 0 s = q at *
  rw [hiK_zero, List.nil_append, Nat.sub_zero] at h5
  rw [Nat.sub_zero] at h3
  constructor
  · intro hl
    rw [h5]
    rw [putN_length] at hl
    unfold putN
    split
    · rename_i hn
      rw [if_pos hn] at hl
      have hle : digs 10 (q.2.1 / 128) ≤ 8 := by have := putN_length_le q.2.1; rw [putN_length, if_pos hn] at this; omega
      by_cases h9 : q.1 = 9
      · exfalso
        have h8 : digs 10 (q.2.1 / 128) = 8 := by omega
        by_cases h0 : q.2.1 / 128 = 0
        · rw [h0, digs_zero] at h8; omega
        · obtain ⟨a, b⟩ := digs_low 10 (q.2.1 / 128) h0 (by omega)
          rw [h8] at b
          omega
      · rw [if_neg h9]
        have : digs 10 (q.2.1 / 128) = q.1 - 1 := by omega
        rw [this]
    · rename_i hn
      rw [if_neg hn] at hl
      rw [if_pos hl.symm]
  · intro he
    rw [he, List.length_take]
    omega

/-- what is put is taken -/
theorem scan_hiK (k : Nat) : ∀ (m size n : Nat) (r : Bs), size + k ≤ 8 → m < 128 ^ k → scan size n (hiK k m ++ r) = scan (size + k) (n * 128 ^ k + m) r := by
  induction k with
  | zero => intro m size n r _ hm; simp [hiK] at *; subst hm; rfl
  | succ k ih =>
    intro m size n r hs hm
    rw [hiK_succ, List.append_assoc, ih (m / 128) size n _ (by omega) (by rw [Nat.pow_succ] at hm; omega)]
    simp only [List.singleton_append, scan]
    have ht : (UInt8.ofNat (m % 128 + 128)).toNat = m % 128 + 128 := by simp; omega
    rw [if_neg (by omega), if_neg (by rw [ht]; omega), ht]
    have e1 : size + k + 1 = size + (k + 1) := by omega
    have e2 : (n * 128 ^ k + m / 128) * 128 + (m % 128 + 128 - 128) = n * 128 ^ (k + 1) + m := by
      rw [Nat.pow_succ, ← Nat.mul_assoc]
      generalize n * 128 ^ k = q
      omega
    rw [e1, e2]

theorem scan_putN (n : Nat) (hn : n < 18446744073709551616) (r : Bs) : scan 0 0 (putN n ++ r) = ((putN n).length, n, true) := by
  rw [putN_length]
  unfold putN
  split
  · rename_i h
    have hb := digs_bound 10 (n / 128) (by omega)
    have hle : digs 10 (n / 128) ≤ 8 := by have := putN_length_le n; rw [putN_length, if_pos h] at this; omega
    have h7 : digs 10 (n / 128) ≤ 7 := by
      rcases Nat.lt_or_ge 7 (digs 10 (n / 128)) with hl | hl
      · exfalso
        have h8 : digs 10 (n / 128) = 8 := by omega
        by_cases h0 : n / 128 = 0
        · rw [h0, digs_zero] at h8; omega
        · obtain ⟨a, b⟩ := digs_low 10 (n / 128) h0 (by omega)
          rw [h8] at b
          omega
      · exact hl
    rw [List.append_assoc, scan_hiK _ _ 0 0 _ (by omega) hb]
    simp only [List.singleton_append, scan, Nat.zero_add, Nat.zero_mul]
    have ht : (UInt8.ofNat (n % 128)).toNat = n % 128 := by simp; omega
    rw [if_neg (by omega), if_pos (by rw [ht]; omega), ht]
    congr 2
    omega
  · rename_i h
    rw [List.append_assoc, scan_hiK 8 _ 0 0 _ (by omega) (by omega)]
    simp only [List.singleton_append, scan, Nat.zero_add, Nat.zero_mul, if_true]
    have ht : (UInt8.ofNat (n % 256)).toNat = n % 256 := by simp
    rw [ht]
    congr 2
    omega

theorem takeN_putN (n : Nat) (hn : n < 18446744073709551616) (r : Bs) : takeN (putN n ++ r) = (n, (putN n).length, 0) := by
  unfold takeN
  rw [scan_putN n hn r]
  simp

theorem takeN_ok (s : Bs) (h : (takeN s).2.2 = 0) : (takeN s).1 < 18446744073709551616 ∧ 0 < (takeN s).2.1 ∧ (takeN s).2.1 ≤ 9 ∧ (takeN s).2.1 ≤ s.length ∧ s.take (takeN s).2.1 = putN (takeN s).1 := by
  unfold takeN at *
  simp only at *
  by_cases h1 : (scan 0 0 s).2.2 = false
  · rw [if_pos h1] at h; simp at h
  · rw [if_neg h1] at h ⊢
    have h1' : (scan 0 0 s).2.2 = true := by simpa using h1
    obtain ⟨a, b, c, d, _⟩ := scan_spec s 0 0 (by omega) (by simp) h1'
    by_cases h2 : (putN (scan 0 0 s).2.1).length = (scan 0 0 s).1
    · rw [if_pos h2]
      exact ⟨d, by simpa using a, b, by simpa using c, ((scan_put s h1').1 h2).symm⟩
    · rw [if_neg h2] at h; simp at h

theorem takeN_bad (s : Bs) (h : (takeN s).2.2 ≠ 0) : (takeN s).1 = 0 ∧ (takeN s).2.1 = 0 := by
  unfold takeN at *
  simp only at *
  split at h
  · rename_i h1; rw [if_pos h1]; exact ⟨rfl, rfl⟩
  · rename_i h1; rw [if_neg h1]
    split at h
    · simp at h
    · rename_i h2; rw [if_neg h2]; exact ⟨rfl, rfl⟩
theorem digs_le_iff (n k : Nat) (h : n < 18446744073709551616) : digs 10 n ≤ k ↔ n / 128 ^ k = 0 := by
  have hb := digs_bound 10 n (by omega)
  rw [Nat.div_eq_zero_iff]
  constructor
  · intro hk
    right
    exact Nat.lt_of_lt_of_le hb (Nat.pow_le_pow_right (by omega) hk)
  · intro hk
    rcases hk with hk | hk
    · have := Nat.pos_of_ne_zero (show (128 : Nat) ^ k ≠ 0 by simp); omega
    · rcases Nat.lt_or_ge k (digs 10 n) with hl | hl
      · exfalso
        by_cases h0 : n = 0
        · subst h0; rw [digs_zero] at hl; omega
        · have := (digs_low 10 n h0 (by omega)).2
          have h2 : 128 ^ k ≤ 128 ^ (digs 10 n - 1) := Nat.pow_le_pow_right (by omega) (by omega)
          omega
      · exact hl

/-- k digits to the base 128, plain -/
def dgL : Nat → Nat → Bs
  | 0, _ => []
  | k + 1, m => dgL k (m / 128) ++ [UInt8.ofNat (m % 128)]
theorem dgL_zero (m : Nat) : dgL 0 m = [] := rfl
theorem dgL_succ (k m : Nat) : dgL (k + 1) m = dgL k (m / 128) ++ [UInt8.ofNat (m % 128)] := rfl
theorem dgL_length (k m : Nat) : (dgL k m).length = k := by
  induction k generalizing m with
  | zero => rfl
  | succ k ih => rw [dgL_succ, List.length_append, ih]; rfl
theorem dgL_front (k m : Nat) : dgL (k + 1) m = UInt8.ofNat (m / 128 ^ k % 128) :: dgL k m := by
  induction k generalizing m with
  | zero => simp [dgL]
  | succ k ih =>
    rw [dgL_succ, ih (m / 128), dgL_succ k m, List.cons_append]
    congr 2
    rw [Nat.div_div_eq_div_mul, Nat.pow_succ, Nat.mul_comm (128 ^ k)]
theorem dgL_get (k : Nat) : ∀ (m j : Nat) (hj : j < (dgL k m).length), ((dgL k m)[j]).toNat = m / 128 ^ (k - 1 - j) % 128 := by
  induction k with
  | zero => intro m j hj; simp [dgL] at hj
  | succ k ih =>
    intro m j hj
    simp only [dgL_length] at hj
    by_cases h : j < k
    · simp only [dgL_succ]
      rw [List.getElem_append_left (by rw [dgL_length]; exact h), ih]
      rw [Nat.div_div_eq_div_mul, show k + 1 - 1 - j = (k - 1 - j) + 1 by omega, Nat.pow_succ, Nat.mul_comm 128]
    · obtain rfl : j = k := by omega
      simp only [dgL_succ]
      rw [List.getElem_append_right (by rw [dgL_length]; omega)]
      simp [dgL_length]
      omega
/-- the first k bytes with their high bits -/
def upTo (k : Nat) (l : Bs) : Bs := (l.take k).map (· + 128) ++ l.drop k
theorem upTo_zero (l : Bs) : upTo 0 l = l := by simp [upTo]
theorem upTo_length (k : Nat) (l : Bs) : (upTo k l).length = l.length := by
  simp [upTo]; omega
theorem upTo_get (k : Nat) (l : Bs) (h : k < l.length) : (upTo k l)[k]? = some l[k] := by
  unfold upTo
  rw [List.getElem?_append_right (by simp; omega)]
  simp [Nat.min_eq_left (Nat.le_of_lt h), h]
theorem upTo_step (k : Nat) (l : Bs) (h : k < l.length) : (upTo k l).set k (l[k] + 128) = upTo (k + 1) l := by
  unfold upTo
  rw [List.set_append_right _ _ (by simp; omega)]
  simp only [List.length_map, List.length_take, Nat.min_eq_left (Nat.le_of_lt h), Nat.sub_self]
  rw [List.drop_eq_getElem_cons h, List.set_cons_zero, List.take_succ_eq_append_getElem h, List.map_append, List.append_assoc]
  rfl
theorem dgL_high (k m : Nat) : (dgL k m).map (· + 128) = hiK k m := by
  induction k generalizing m with
  | zero => rfl
  | succ k ih =>
    rw [dgL_succ, hiK_succ, List.map_append, ih]
    congr 1
    simp only [List.map_cons, List.map_nil, List.cons.injEq, and_true]
    apply UInt8.toNat_inj.1
    simp [UInt8.toNat_add]
theorem upTo_putN (n : Nat) (h : n < 72057594037927936) : upTo (max (digs 10 n) 1 - 1) (dgL (max (digs 10 n) 1) n) = putN n := by
  have hb : n < 18446744073709551616 := by omega
  have e : max (digs 10 n) 1 = digs 10 (n / 128) + 1 := by
    by_cases h0 : n = 0
    · subst h0; simp [digs_zero]
    · rw [digs_step n h0 hb]; omega
  rw [e, Nat.add_sub_cancel, dgL_succ]
  unfold upTo putN
  rw [if_pos h, List.take_left' (dgL_length _ _), List.drop_left' (dgL_length _ _), dgL_high]
theorem upTo_all (k m : Nat) : upTo k (dgL k m) = hiK k m := by
  unfold upTo
  rw [List.take_of_length_le (by rw [dgL_length]; omega), List.drop_of_length_le (by rw [dgL_length]; omega), dgL_high, List.append_nil]
theorem digs_big (n : Nat) (h : 72057594037927936 ≤ n) (h2 : n < 18446744073709551616) : max (digs 10 (n / 256)) 8 = 8 := by
  have := (digs_le_iff (n / 256) 8 (by omega)).2 (by omega)
  omega
theorem digs_small (n : Nat) (h : n < 72057594037927936) : max (digs 10 n) 1 ≤ 8 := by
  have := (digs_le_iff n 8 (by omega)).2 (by omega)
  omega
end Go.Proofs.Ytljfolepmkcjlaa.Plain
