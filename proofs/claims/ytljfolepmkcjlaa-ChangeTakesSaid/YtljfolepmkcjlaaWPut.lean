/-
  The walk of number.Put: it answers putN.
-/
import Derived.Test.YtljfolepmkcjlaaWNum
import Derived.Laws.IdiomStrings
namespace Go.Proofs.Ytljfolepmkcjlaa
open Go.RowKit Plain

theorem str_row {w : World} {b t n : Nat} {f : Nat → Value} (h : w.rowIs b t n f) (off cap : Nat) (l : Bs) (hl : off + l.length ≤ n)
    (hf : ∀ j (hj : j < l.length), f (off + j) = .int .u8 (l[j].toNat : Int)) :
    (convert 70 9 (.slice (some ⟨b, off, none⟩) l.length cap)).run Try.prog w = .ok (.string ⟨l.toArray⟩) w := by
  refine run_convert_bytes_back w _ _ 5 ⟨b, off, none⟩ cap l Try.underlying70 Try.underlying5 Try.underlying9 ?_
  intro j hj
  have e : (⟨b, off, none⟩ : Addr).add j = ⟨b, off + j, none⟩ := by unfold Addr.add; split <;> simp_all
  rw [e, h.cell (by omega), hf j hj]

/-- what the loop of put_small holds to: from the place q on the bytes stand that follow m's. -/
def PutRel (n B : Nat) (wr : World) (q m : Nat) : Prop :=
  ∃ (tail : Bs) (f : Nat → Value), q + tail.length = 9 ∧ 0 < tail.length ∧ hiK (digs 10 m) m ++ tail = putN n ∧ m < 128 ^ (q - 1) ∧ q ≤ 8 ∧ wr.rowIs B 94 9 f ∧ ∀ j (hj : j < tail.length), f (q + j) = .int .u8 (tail[j].toNat : Int)

theorem PutRel.start {n B : Nat} {wr : World} {f : Nat → Value} (h : n < 72057594037927936) (hr : wr.rowIs B 94 9 f) (hf : f 8 = .int .u8 ((n % 128 : Nat) : Int)) : PutRel n B wr 8 (n / 128) := by
  refine ⟨[UInt8.ofNat (n % 128)], f, rfl, by simp, ?_, by simp; omega, by omega, hr, ?_⟩
  · unfold putN; rw [if_pos h]
  · intro j hj
    simp only [List.length_singleton] at hj
    obtain rfl : j = 0 := by omega
    rw [hf]
    simp
    omega

theorem PutRel.step {n B : Nat} {wr : World} {q m : Nat} (h : PutRel n B wr (q + 1) m) (hm : 0 < m) (hq : 0 < q) (v : Int) (hv : v = ((m % 128 + 128 : Nat) : Int)) : PutRel n B (wr.setCell ⟨B, q, none⟩ (.int .u8 v)) q (m / 128) := by
  obtain ⟨tail, f, h1, h2, h3, h4, h5, h6, h7⟩ := h
  have hb : m < 18446744073709551616 := by
    have : 128 ^ (q + 1 - 1) ≤ 128 ^ 7 := Nat.pow_le_pow_right (by omega) (by omega)
    omega
  refine ⟨UInt8.ofNat (m % 128 + 128) :: tail, _, by simp; omega, by simp, ?_, ?_, by omega, h6.set q _, ?_⟩
  · rw [← h3, digs_step m (by omega) hb, hiK_succ, List.append_assoc, List.singleton_append]
  · obtain ⟨q', rfl⟩ : ∃ q', q = q' + 1 := ⟨q - 1, by omega⟩
    simp only [Nat.add_sub_cancel] at h4 ⊢
    rw [Nat.pow_succ] at h4
    omega
  · intro j hj
    cases j with
    | zero => simp [hv]; omega
    | succ j =>
      have := h7 j (by simpa using hj)
      simp only [List.getElem_cons_succ]
      rw [if_neg (by omega), ← this]
      congr 1
      omega

theorem PutRel.pos {n B : Nat} {wr : World} {q m : Nat} (h : PutRel n B wr q m) (hm : 0 < m) : 2 ≤ q := by
  obtain ⟨tail, f, h1, h2, h3, h4, h5, h6, h7⟩ := h
  rcases Nat.lt_or_ge q 2 with hq | hq
  · have : q - 1 = 0 := by omega
    rw [this] at h4
    simp at h4
    omega
  · exact hq

theorem PutRel.fin {n B : Nat} {wr : World} {q : Nat} (h : PutRel n B wr q 0) (cap : Nat) :
    (convert 70 9 (.slice (some ⟨B, q, none⟩) (9 - q) cap)).run Try.prog wr = .ok (.string ⟨(putN n).toArray⟩) wr := by
  obtain ⟨tail, f, h1, h2, h3, h4, h5, h6, h7⟩ := h
  rw [digs_zero, hiK_zero, List.nil_append] at h3
  rw [← h3, show 9 - q = tail.length by omega]
  exact str_row h6 q cap tail (by omega) h7

set_option maxHeartbeats 400000 in
theorem put_small (n : Nat) (w : World) (h1 : n < 72057594037927936) :
    Calls Try.prog 54 #[.int .u64 n] w fun e w' => e = .returned (.string ⟨(putN n).toArray⟩) ∧ Below w.heap.size w w' := by
  have hd : decide ((72057594037927936 : Int) ≤ ((n : Nat) : Int)) = false := decide_eq_false (by omega)
  have H1 := Lib.hid h1
  clear h1
  go_enter Try.func54, Try.ntmps54
  go_wp2
  go_loopw [0, 6] (fun a i wr => ∃ q m : Nat, a = .int .u64 (m : Int) ∧ i = .int .i64 (q : Int) ∧ PutRel n w.heap.size wr q m ∧ Below w.heap.size w wr) (fun _ i _ => (intOf i).toNat)
  case atStart =>
    refine ⟨8, n / 128, by go_num, rfl, PutRel.start (f := fun i => if i = 8 then .int .u8 (bits BinOp.and IntKind.u64 (↑n) 127 % 256) else .int .u8 0) H1.out ?_ ?_, (Below.refl _ _).alloc (Nat.le_refl _) _⟩
    · refine World.rowIs_alloc _ _ _ _ ?_
      intro i hi
      simp only [List.size_toArray, List.length_cons, List.length_nil] at hi
      match i, hi with
      | 0, _ => rfl
      | 1, _ => rfl
      | 2, _ => rfl
      | 3, _ => rfl
      | 4, _ => rfl
      | 5, _ => rfl
      | 6, _ => rfl
      | 7, _ => rfl
      | 8, _ => rfl
    · simp only [if_true]
      rw [and_127 n (by have := H1.out; omega)]
      congr 1
      omega
  case round =>
    obtain ⟨q, m, rfl, rfl, hP, hB⟩ := hrel
    by_cases h0 : 0 < m
    · obtain ⟨p, rfl⟩ : ∃ p, q = p + 1 := ⟨q - 1, by have := hP.pos h0; omega⟩
      have hp : 0 < p := by have := hP.pos h0; omega
      obtain ⟨tail, f, g1, g2, g3, g4, g5, g6, g7⟩ := id hP
      have hc := g6.cell (i := p) (by omega)
      have hf := g6.frozen p
      have HP := Lib.hid hP
      have hp9 : p < 9 := by omega
      clear g1 g2 g3 g4 g5 g6 g7 hP
      go_wp2
      go_roundw
      case rel => exact ⟨p, m / 128, by go_num, by go_num, HP.out.step h0 hp _ (by have := or_128 (m % 256) (by omega); rw [show (m % 256) % 128 = m % 128 by omega] at this; rw [← this]; congr 1), hB.setCell (Nat.le_refl _) _⟩
      case measure => simp [intOf]
    · obtain rfl : m = 0 := by omega
      have hc := hP.fin
      have hq : q ≤ 8 := by obtain ⟨tail, f, g1, g2, g3, g4, g5, g6, g7⟩ := hP; exact g5
      clear h0 hP
      have hq' : (q : Int) ≤ 9 := by omega
      have hq9 : ¬ 9 = q := by omega
      go_wp2
      go_ret
      exact ⟨rfl, hB⟩
/-- what the loop of put_big holds to. -/
def PutBig (n B : Nat) (wr : World) (q x : Nat) : Prop :=
  ∃ (tail : Bs) (f : Nat → Value), q + tail.length = 9 ∧ hiK q x ++ tail = putN n ∧ q ≤ 8 ∧ wr.rowIs B 94 9 f ∧ ∀ j (hj : j < tail.length), f (q + j) = .int .u8 (tail[j].toNat : Int)

theorem PutBig.start {n B : Nat} {wr : World} {f : Nat → Value} (h : 72057594037927936 ≤ n) (hr : wr.rowIs B 94 9 f) (hf : f 8 = .int .u8 ((n % 256 : Nat) : Int)) : PutBig n B wr 8 (n / 256) := by
  refine ⟨[UInt8.ofNat (n % 256)], f, rfl, ?_, by omega, hr, ?_⟩
  · unfold putN; rw [if_neg (by omega)]
  · intro j hj
    simp only [List.length_singleton] at hj
    obtain rfl : j = 0 := by omega
    rw [hf]
    simp

theorem PutBig.step {n B : Nat} {wr : World} {q m : Nat} (h : PutBig n B wr (q + 1) m) (v : Int) (hv : v = ((m % 128 + 128 : Nat) : Int)) : PutBig n B (wr.setCell ⟨B, q, none⟩ (.int .u8 v)) q (m / 128) := by
  obtain ⟨tail, f, h1, h3, h5, h6, h7⟩ := h
  refine ⟨UInt8.ofNat (m % 128 + 128) :: tail, _, by simp; omega, ?_, by omega, h6.set q _, ?_⟩
  · rw [← h3, hiK_succ, List.append_assoc, List.singleton_append]
  · intro j hj
    cases j with
    | zero => simp [hv]; omega
    | succ j =>
      have := h7 j (by simpa using hj)
      simp only [List.getElem_cons_succ]
      rw [if_neg (by omega), ← this]
      congr 1
      omega

theorem PutBig.fin {n B : Nat} {wr : World} {x : Nat} (h : PutBig n B wr 0 x) (cap : Nat) :
    (convert 70 9 (.slice (some ⟨B, 0, none⟩) 9 cap)).run Try.prog wr = .ok (.string ⟨(putN n).toArray⟩) wr := by
  obtain ⟨tail, f, h1, h3, h5, h6, h7⟩ := h
  rw [hiK_zero, List.nil_append] at h3
  have e : tail.length = 9 := by omega
  have h := str_row h6 0 cap tail (by omega) h7
  rw [e] at h
  rw [← h3]
  exact h

set_option maxHeartbeats 400000 in
theorem put_big (n : Nat) (w : World) (h1 : 72057594037927936 ≤ n) (h2 : n < 18446744073709551616) :
    Calls Try.prog 54 #[.int .u64 n] w fun e w' => e = .returned (.string ⟨(putN n).toArray⟩) ∧ Below w.heap.size w w' := by
  have hd : decide ((72057594037927936 : Int) ≤ ((n : Nat) : Int)) = true := decide_eq_true (by omega)
  have H1 := Lib.hid h1
  clear h1 h2
  go_enter Try.func54, Try.ntmps54
  go_wp2
  go_loopw [4, 5] (fun i a wr => ∃ q m : Nat, a = .int .u64 (m : Int) ∧ i = .int .i64 ((q : Int) - 1) ∧ PutBig n w.heap.size wr q m ∧ Below w.heap.size w wr) (fun i _ _ => (intOf i + 1).toNat)
  case atStart =>
    refine ⟨8, n / 256, by go_num, rfl, PutBig.start (f := fun i => if i = 8 then .int .u8 ((n : Int) % 256) else .int .u8 0) H1.out ?_ ?_, (Below.refl _ _).alloc (Nat.le_refl _) _⟩
    · refine World.rowIs_alloc _ _ _ _ ?_
      intro i hi
      simp only [List.size_toArray, List.length_cons, List.length_nil] at hi
      match i, hi with
      | 0, _ => rfl
      | 1, _ => rfl
      | 2, _ => rfl
      | 3, _ => rfl
      | 4, _ => rfl
      | 5, _ => rfl
      | 6, _ => rfl
      | 7, _ => rfl
      | 8, _ => rfl
    · simp only [if_true]
      congr 1
  case round =>
    obtain ⟨q, m, rfl, rfl, hP, hB⟩ := hrel
    rcases q with _ | p
    · have hc := hP.fin
      clear hP
      go_wp2
      go_ret
      exact ⟨rfl, hB⟩
    · obtain ⟨tail, f, g1, g3, g5, g6, g7⟩ := id hP
      have hc := g6.cell (i := p) (by omega)
      have hf := g6.frozen p
      have HP := Lib.hid hP
      have hp9 : p < 9 := by omega
      clear g1 g3 g5 g6 g7 hP
      go_wp2
      go_roundw
      case rel => exact ⟨p, m / 128, by go_num, by go_num, HP.out.step _ (by have := or_128 (m % 256) (by omega); rw [show (m % 256) % 128 = m % 128 by omega] at this; rw [← this]; congr 1), hB.setCell (Nat.le_refl _) _⟩
      case measure => simp [intOf]

/-- number.Put -/
theorem put_any (n : Nat) (w : World) (h : n < 18446744073709551616) :
    Calls Try.prog 54 #[.int .u64 n] w fun e w' => e = .returned (.string ⟨(putN n).toArray⟩) ∧ Below w.heap.size w w' := by
  rcases Nat.lt_or_ge n 72057594037927936 with h1 | h1
  · exact put_small n w h1
  · exact put_big n w h1 h
end Go.Proofs.Ytljfolepmkcjlaa
