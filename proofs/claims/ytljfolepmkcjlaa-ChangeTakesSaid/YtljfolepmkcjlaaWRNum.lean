/-
  The walks of layer 1's reference: digits, Put.
-/
import Derived.Test.YtljfolepmkcjlaaWPut
import Derived.Test.YtljfolepmkcjlaaMem
namespace Go.Proofs.Ytljfolepmkcjlaa
open Go.RowKit Plain
set_option maxRecDepth 100000

/-- what the loop of digits holds to: k digits are there, m is left. -/
def DigRel (n least B : Nat) (wr : World) (k m : Nat) (v : Value) : Prop :=
  m = n / 128 ^ k ∧ k ≤ max (digs 10 n) least ∧ wr.ownsRow B 5 1 v k (Lib.byteCells (dgL k n))

theorem DigRel.more {n least B : Nat} {wr : World} {k m : Nat} {v : Value} (h : DigRel n least B wr k m v) (hn : n < 18446744073709551616) (hm : 0 < m ∨ k < least) : k < max (digs 10 n) least := by
  obtain ⟨h1, h2, h3⟩ := h
  rcases hm with hm | hm
  · have := digs_le_iff n k hn
    rw [← h1] at this
    rcases Nat.lt_or_ge k (digs 10 n) with hl | hl
    · omega
    · have := this.1 hl; omega
  · omega
theorem DigRel.fin {n least B : Nat} {wr : World} {k : Nat} {v : Value} (h : DigRel n least B wr k 0 v) (hn : n < 18446744073709551616) (hk : ¬ k < least) : k = max (digs 10 n) least := by
  obtain ⟨h1, h2, h3⟩ := h
  have := (digs_le_iff n k hn).2 h1.symm
  omega
theorem DigRel.next {n least B : Nat} {wr w' : World} {k m : Nat} {v v' : Value} (h : DigRel n least B wr k m v) (hk : k < max (digs 10 n) least)
    (ho : w'.ownsRow B 5 1 v' (1 + k) (Lib.byteCells ([UInt8.ofNat (m % 128)] ++ dgL k n))) : DigRel n least B w' (k + 1) (m / 128) v' := by
  obtain ⟨h1, h2, h3⟩ := h
  refine ⟨by rw [h1, Nat.div_div_eq_div_mul, Nat.pow_succ], by omega, ?_⟩
  rw [dgL_front, ← h1, Nat.add_comm k 1]
  exact ho

set_option maxHeartbeats 400000 in
theorem digits_any (n least : Nat) (w : World) (h1 : n < 18446744073709551616) (h2 : least ≤ 10) :
    Calls Try.prog 80 #[.int .u64 n, .int .i64 least] w fun e w' => ∃ v, e = .returned v ∧
      w'.ownsRow w.heap.size 5 1 v (max (digs 10 n) least) (Lib.byteCells (dgL (max (digs 10 n) least) n)) ∧ Below w.heap.size w w' := by
  have hR : DigRel n least w.heap.size w 0 n (.slice none 0 0) := ⟨by simp, by omega, World.ownsRow_nil _ _ _ _⟩
  have H1 := Lib.hid h1
  have hD := digs_le 10 n
  go_enter Try.func80, Try.ntmps80
  clear h1
  go_wp2
  go_loopw [0, 5] (fun a v wr => ∃ k m : Nat, a = .int .u64 (m : Int) ∧ k ≤ 10 ∧ DigRel n least w.heap.size wr k m v ∧ Below w.heap.size w wr) (fun a v _ => 10 - lenOf v)
  case atStart => exact ⟨0, n, rfl, by omega, hR, Below.refl _ _⟩
  case round =>
    obtain ⟨k, m, rfl, hk, hP, hB⟩ := hrel
    obtain ⟨A, c, rfl, hS⟩ := Sl.own hP.2.2
    have hz := hB.size
    have hmb : m < 18446744073709551616 := by have := hP.1; have h3 := H1.out; have h4 := Nat.div_le_self n (128 ^ k); omega
    by_cases hm : 0 < m ∨ k < least
    · have hmore := Lib.hid (hP.more H1.out hm)
      have HP := Lib.hid hP
      clear hP
      by_cases h0 : 0 < m
      all_goals
        go_wp2_with (at_builtin; refine app_u8 _ rfl _ _ rfl w.heap.size _ 1 [UInt8.ofNat (m % 128)] rfl (own_lit_u8 _ _ hB.size _ _ (by simp; omega)) A k c (dgL k n) rfl (hS.alloc _) (by omega) (by simp; omega) ?_; intro v' w' g1 g2 g3)
        go_roundw
        case rel => exact ⟨k + 1, m / 128, by go_num, by have := hmore.out; omega, HP.out.next hmore.out g1, below_lit hB hz g2⟩
        case measure => rw [own_len g1]; simp only [lenOf]; have := hmore.out; omega
    · obtain rfl : m = 0 := by omega
      have hkl : ¬ k < least := by omega
      have hf := hP.fin H1.out hkl
      have HP := Lib.hid hP
      have HF := Lib.hid hf
      clear hP hm hf hmb
      go_wp2
      go_ret
      exact ⟨_, rfl, by rw [← HF.out]; exact HP.out.2.2, hB⟩

/-- what both loops of Put hold to: of the K bytes l the first k have their high bits. -/
def HighRel (l : Bs) (B g cap : Nat) (wr : World) (k : Nat) : Prop :=
  wr.ownsRow B 5 1 (.slice (some ⟨g, 0, none⟩) l.length cap) l.length (Lib.byteCells (upTo k l))

theorem HighRel.cell {l : Bs} {B g cap : Nat} {wr : World} {k : Nat} (h : HighRel l B g cap wr k) (hk : k < l.length) : wr.cell? ⟨g, k, none⟩ = some (.int .u8 (l[k].toNat : Int)) := by
  have := World.ownsRow.cellAt h k (by omega)
  rw [this]
  have h2 := upTo_get k l hk
  simp [Lib.byteCells, h2]
theorem HighRel.step {l : Bs} {B g cap : Nat} {wr : World} {k : Nat} (h : HighRel l B g cap wr k) (hk : k < l.length) (hs : l[k].toNat < 128) (v : Int) (hv : v = (l[k].toNat : Int) + 128) : HighRel l B g cap (wr.setCell ⟨g, k, none⟩ (.int .u8 v)) (k + 1) := by
  have h2 := (World.ownsRow.stored h k (.int .u8 v)).1
  have e : v = ((l[k] + 128).toNat : Int) := by rw [hv, UInt8.toNat_add]; simp; omega
  rw [e, cells_bytes_set, upTo_step k l hk] at h2
  rw [e]
  exact h2

theorem dgL_small (k m : Nat) (j : Nat) (hj : j < (dgL k m).length) : ((dgL k m)[j]).toNat < 128 := by
  rw [dgL_get]; omega

set_option maxHeartbeats 400000 in
theorem rput_small (n : Nat) (w : World) (h1 : n < 72057594037927936) :
    Calls Try.prog 67 #[.int .u64 n] w fun e w' => e = .returned (.string ⟨(putN n).toArray⟩) ∧ Below w.heap.size w w' := by
  have hd : decide (((n : Nat) : Int) < 72057594037927936) = true := decide_eq_true (by omega)
  have hK := digs_small n h1
  have hK0 : 0 < max (digs 10 n) 1 := by omega
  have hfin := Lib.hid (upTo_putN n h1)
  have hc := Lib.hid (fun w' => digits_any n 1 w' (by omega) (by omega))
  have hs := dgL_small (max (digs 10 n) 1) n
  have hl := dgL_length (max (digs 10 n) 1) n
  clear h1
  generalize max (digs 10 n) 1 = K at *
  generalize dgL K n = l at *
  subst hl
  have HS := Lib.hid hs
  clear hs
  go_enter Try.func67, Try.ntmps67
  go_wp2_with (go_at_call 80; refine (hc.out _).mono ?_; rintro e w1 ⟨v, rfl, hown, hB⟩; obtain ⟨g, cap, rfl, hg, hnc, hlt⟩ := own_form hown hK0)
  have hR : HighRel l w.heap.size g cap w1 0 := by unfold HighRel; rw [upTo_zero]; exact hown
  clear hown hc
  go_loopw [4] (fun i wr => ∃ k : Nat, i = .int .i64 (k : Int) ∧ k < l.length ∧ HighRel l w.heap.size g cap wr k ∧ Below w.heap.size w wr) (fun i _ => l.length - (intOf i).toNat)
  case atStart => exact ⟨0, rfl, hK0, hR, hB⟩
  case round =>
    obtain ⟨k, rfl, hk, hP, hB'⟩ := hrel
    clear hR hB hd
    by_cases hlt2 : k + 1 < l.length
    · have hcell := hP.cell hk
      have hfz := World.ownsRow.frozenAt hP k
      have hsm : (l[k].toNat : Int) < 128 := by have := HS.out k hk; omega
      have h0 : (0 : Int) ≤ (l[k].toNat : Int) := by omega
      have HP := Lib.hid hP
      clear hP
      obtain ⟨x, hx⟩ : ∃ x : Int, (l[k].toNat : Int) = x := ⟨_, rfl⟩
      rw [hx] at hcell hsm h0
      have HX := Lib.hid hx
      clear hx
      go_wp2
      go_roundw
      case rel => exact ⟨k + 1, by go_num, hlt2, HP.out.step hk (by have := HX.out; omega) _ (by rw [HX.out]), hB'.setCell hg _⟩
      case measure => simp [intOf]; omega
    · have hcv : (convert 70 9 (.slice (some ⟨g, 0, none⟩) l.length cap)).run Try.prog wr = .ok (.string ⟨(putN n).toArray⟩) wr := by
        obtain ⟨A, c, e, hsl⟩ := Sl.own hP
        injection e with e1 e2 e3
        subst e1 e3
        have h := run_str_sl (c := cap) hsl
        rw [show k = l.length - 1 by omega, hfin.out] at h
        exact h
      clear hP hK0
      go_wp2
      go_ret
      exact ⟨rfl, hB'⟩

set_option maxHeartbeats 400000 in
theorem rput_big (n : Nat) (w : World) (h1 : 72057594037927936 ≤ n) (h2 : n < 18446744073709551616) :
    Calls Try.prog 67 #[.int .u64 n] w fun e w' => e = .returned (.string ⟨(putN n).toArray⟩) ∧ Below w.heap.size w w' := by
  have hd : decide (((n : Nat) : Int) < 72057594037927936) = false := decide_eq_false (by omega)
  have hK := digs_big n h1 h2
  have hfin : upTo 8 (dgL 8 (n / 256)) ++ [UInt8.ofNat (n % 256)] = putN n := by
    rw [upTo_all]; unfold putN; rw [if_neg (by omega)]
  have hc : ∀ w', Calls Try.prog 80 #[.int .u64 ((n : Int) / 256), .int .i64 8] w' fun e w'' => ∃ v, e = .returned v ∧
      w''.ownsRow w'.heap.size 5 1 v 8 (Lib.byteCells (dgL 8 (n / 256))) ∧ Below w'.heap.size w' w'' := fun w' => by
    have := digits_any (n / 256) 8 w' (by omega) (by omega)
    rwa [hK] at this
  have HC := Lib.hid hc
  have HF := Lib.hid hfin
  have hs := dgL_small 8 (n / 256)
  have hl := dgL_length 8 (n / 256)
  clear h1 hK hfin hc
  generalize dgL 8 (n / 256) = l at *
  have HS := Lib.hid hs
  have HL := Lib.hid hl
  have hl8 : l.length ≤ 8 := by omega
  have hl8' : 8 ≤ l.length := by omega
  clear hs hl
  go_enter Try.func67, Try.ntmps67
  go_wp2_with (go_at_call 80; refine (HC.out _).mono ?_; rintro e w1 ⟨v, rfl, hown, hB⟩; obtain ⟨g, cap, rfl, hg, hnc, hlt⟩ := own_form hown (by omega); clear h2)
  have hR : HighRel l w.heap.size g cap w1 0 := by unfold HighRel; rw [upTo_zero, HL.out]; exact hown
  clear hown HC hd
  go_loopw [6] (fun i wr => ∃ k : Nat, i = .int .i64 (k : Int) ∧ k ≤ 8 ∧ HighRel l w.heap.size g cap wr k ∧ Below w.heap.size w wr) (fun i _ => 8 - (intOf i).toNat)
  case atStart => exact ⟨0, rfl, by omega, hR, hB⟩
  case round =>
    obtain ⟨k, rfl, hk, hP, hB'⟩ := hrel
    clear hR hB
    by_cases hlt2 : k < 8
    · have hcell := hP.cell (by omega)
      have hfz := World.ownsRow.frozenAt hP k
      have hsm : (l[k].toNat : Int) < 128 := by have := HS.out k (by omega); omega
      have h0 : (0 : Int) ≤ (l[k].toNat : Int) := by omega
      have HP := Lib.hid hP
      clear hP
      obtain ⟨x, hx⟩ : ∃ x : Int, (l[k].toNat : Int) = x := ⟨_, rfl⟩
      rw [hx] at hcell hsm h0
      have HX := Lib.hid hx
      clear hx
      go_wp2
      go_roundw
      case rel => exact ⟨k + 1, by go_num, by omega, HP.out.step (by omega) (by have := HX.out; omega) _ (by rw [HX.out]), hB'.setCell hg _⟩
      case measure => simp [intOf]; omega
    · obtain rfl : k = 8 := by omega
      have hP' : wr.ownsRow w.heap.size 5 1 (.slice (some ⟨g, 0, none⟩) 8 cap) 8 (Lib.byteCells (upTo 8 l)) := by
        have := hP; unfold HighRel at this; rwa [HL.out] at this
      have hz := hB'.size
      have HP := Lib.hid hP'
      clear hP hk hlt2 hP'
      go_wp2_with (
        at_builtin
        refine app_u8 _ rfl _ _ rfl w.heap.size _ 8 (upTo 8 l) rfl (HP.out.alloc _) _ _ _ [UInt8.ofNat (n % 256)] rfl (Sl.lit_u8 _ _ _ (by simp)) (by omega) (by simp; omega) ?_
        intro v' w2 g1 g2 g3
        have hB2 := below_own_alloc hB' hz HP.out g2
        clear g2 g3
        rw [HF.out] at g1
        obtain ⟨A, c, rfl, hS⟩ := Sl.own g1
        have hcv := run_str_sl (c := c) hS)
      go_ret
      exact ⟨rfl, hB2⟩

/-- counterfoilref01.Put -/
theorem rput_any (n : Nat) (w : World) (h : n < 18446744073709551616) :
    Calls Try.prog 67 #[.int .u64 n] w fun e w' => e = .returned (.string ⟨(putN n).toArray⟩) ∧ Below w.heap.size w w' := by
  rcases Nat.lt_or_ge n 72057594037927936 with h1 | h1
  · exact rput_small n w h1
  · exact rput_big n w h1 h
end Go.Proofs.Ytljfolepmkcjlaa
