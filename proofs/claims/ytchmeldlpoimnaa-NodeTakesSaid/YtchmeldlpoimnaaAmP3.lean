/-
  Taking texts and numbers: the contracts of (*rest).text and (*rest).number.
-/
import Derived.Test.YtchmeldlpoimnaaAmP2
namespace Go.Proofs.Ytchmeldlpoimnaa
open Go.RowKit Am IntWalk
set_option maxRecDepth 100000
set_option linter.unusedVariables false
set_option linter.unusedSimpArgs false

theorem text_c (n : Int) (h0 : 0 ≤ n) (s : Bs) (ok : Bool) : C Try.prog 72 [.ptr 0 0, .d (.int .i64 n)] [.box 106 [.d (.str s), .d (.bool ok)]]
    (fun r o => r = .d (.str (txt n (s, ok)).1) ∧ o = [.box 106 [.d (.str (txt n (s, ok)).2.1), .d (.bool (txt n (s, ok)).2.2)]]) := by
  have okk := cfT_ok trE_ok
  refine C_of_run (fn := Try.f72) (body := Try.f72.body.getD .skip) true (by kernel_rfl) (by kernel_rfl) (by kernel_rfl) ?_
  cases h12 : (decide ((Nat.cast (R := Int) (List.length s)) < n) : Bool) with
  | true =>
    exact WK.fin okk 1000 0 [(12, .d (.bool true))] [] [(.d (.bool (decide ((Nat.cast (R := Int) (List.length s)) < n))), .d (.bool true))] rfl (by kernel_rfl : runEnd (cfT trE) true _ 1000 0 _ _ (ini 32 [.ptr 0 0, .d (.int .i64 n)] [.box 106 [.d (.str s), .d (.bool ok)]]) = some (.d (.str []), [.box 106 [.d (.str s), .d (.bool false)]], _, _)) trivial ⟨le_bool h12, trivial⟩ ⟨by have := h12; simp at this; first | (rw [show txt n (s, ok) = ([], (s, false)) from if_pos this]; done) | (rw [show txt n (s, ok) = (s.take n.toNat, (s.drop n.toNat, ok)) from if_neg (by simpa using this)]; simp [cutL, loOf, hiOf]), by have := h12; simp at this; first | (rw [show txt n (s, ok) = ([], (s, false)) from if_pos this]; done) | (rw [show txt n (s, ok) = (s.take n.toNat, (s.drop n.toNat, ok)) from if_neg (by simpa using this)]; simp [cutL, loOf, hiOf])⟩
  | false =>
    exact WK.fin okk 1000 0 [(12, .d (.bool false))] [decide (0 ≤ n ∧ n ≤ (Nat.cast (R := Int) (List.length s))), decide (0 ≤ n ∧ n ≤ (Nat.cast (R := Int) (List.length s)))] [(.d (.bool (decide ((Nat.cast (R := Int) (List.length s)) < n))), .d (.bool false))] rfl (by kernel_rfl : runEnd (cfT trE) true _ 1000 0 _ _ (ini 32 [.ptr 0 0, .d (.int .i64 n)] [.box 106 [.d (.str s), .d (.bool ok)]]) = some (.d (.str (cutL s none (some n))), [.box 106 [.d (.str (cutL s (some n) none)), .d (.bool ok)]], _, _)) (by refine ⟨?_, ?_, trivial⟩ <;> (have := of_decide_eq_false h12; exact decide_eq_true (by omega))) ⟨le_bool h12, trivial⟩ ⟨by have := h12; simp at this; first | (rw [show txt n (s, ok) = ([], (s, false)) from if_pos this]; done) | (rw [show txt n (s, ok) = (s.take n.toNat, (s.drop n.toNat, ok)) from if_neg (by simpa using this)]; simp [cutL, loOf, hiOf]), by have := h12; simp at this; first | (rw [show txt n (s, ok) = ([], (s, false)) from if_pos this]; done) | (rw [show txt n (s, ok) = (s.take n.toNat, (s.drop n.toNat, ok)) from if_neg (by simpa using this)]; simp [cutL, loOf, hiOf])⟩
theorem text_ent : EntOk Try.prog 72 txtE := by
  intro a o r o' c hg hc
  unfold txtE at hg
  split at hg
  · simp only [Option.some.injEq, Prod.mk.injEq] at hg
    obtain ⟨rfl, rfl, rfl⟩ := hg
    exact text_c _ (of_decide_eq_true (hc _ (.head _))) _ _
  · cases hg
theorem tpA0_ok : EntsOk Try.prog tpA0 := .cons text_ent trE_ok

theorem or_eq (x b : Nat) (hb : b < 256) (hx : x ≤ 4294967296) : bits .or .i64 ((256 * x : Nat) : Int) (b : Int) = ((256 * x + b : Nat) : Int) := by
  show IntKind.i64.wrap (((BitVec.ofInt 64 ((256 * x : Nat) : Int)) ||| (BitVec.ofInt 64 (b : Int))).toNat : Int) = _
  have e : ((BitVec.ofInt 64 ((256 * x : Nat) : Int)) ||| (BitVec.ofInt 64 (b : Int))).toNat = 256 * x + b := by
    rw [BitVec.toNat_or, BitVec.toNat_ofInt, BitVec.toNat_ofInt]
    have e1 : (((256 * x : Nat) : Int) % ((2 ^ 64 : Nat) : Int)).toNat = 256 * x := by omega
    have e2 : (((b : Nat) : Int) % ((2 ^ 64 : Nat) : Int)).toNat = b := by omega
    rw [e1, e2, show 256 * x = 2 ^ 8 * x from rfl, Nat.two_pow_add_eq_or_of_lt (i := 8) hb]
  rw [e]
  exact i64_in _ (by omega)
theorem wr64 (x : Nat) (h : x ≤ 1099511627776) : IntKind.i64.wrap (x : Int) = (x : Int) := i64_in _ (by omega)
def orS (X : Int) (b : UInt8) : Int := bits .or .i64 (IntKind.i64.wrap (X * 256)) (IntKind.i64.wrap (b.toNat : Int))
def or0 (a : UInt8) : Int := bits .or .i64 0 (IntKind.i64.wrap (a.toNat : Int))
theorem or0_eq (a : UInt8) : or0 a = (a.toNat : Int) := by
  have := a.toNat_lt
  unfold or0
  rw [wr64 _ (by omega)]
  have := or_eq 0 a.toNat (by omega) (by omega)
  simpa using this
theorem orS_eq (X : Nat) (b : UInt8) (h : X ≤ 4294967295) : orS (X : Int) b = ((256 * X + b.toNat : Nat) : Int) := by
  have := b.toNat_lt
  unfold orS
  rw [wr64 b.toNat (by omega), show ((X : Int) * 256) = ((256 * X : Nat) : Int) by omega, wr64 _ (by omega)]
  exact or_eq X b.toNat (by omega) (by omega)
noncomputable abbrev nuC : Code := (Try.f71.body).getD .skip
theorem number_of (n : Int) (h0 : 0 ≤ n) (s : Bs) (ok : Bool) (l : Bs) (hl : (txt n (s, ok)).1 = l) (h4 : l = [] ∨ (∃ a, l = [a]) ∨ (∃ a b, l = [a, b]) ∨ ∃ a b c d, l = [a, b, c, d]) :
    C Try.prog 71 [.ptr 0 0, .d (.int .i64 n)] [.box 106 [.d (.str s), .d (.bool ok)]]
    (fun r o => r = .d (.int .i64 (valB l)) ∧ o = [.box 106 [.d (.str (txt n (s, ok)).2.1), .d (.bool (txt n (s, ok)).2.2)]]) := by
  have okk := cfT_ok tpA0_ok
  refine C_of_run (fn := Try.f71) (body := nuC) true (by kernel_rfl) (by kernel_rfl) (by kernel_rfl) ?_
  rcases h4 with rfl | ⟨a, rfl⟩ | ⟨a, b, rfl⟩ | ⟨a, b, c, d, rfl⟩
  · exact WK.fin okk 1000 10 [(10, .d (.str []))] [decide (0 ≤ n)] [(.d (.str (txt n (s, ok)).1), .d (.str []))] rfl
      (by kernel_rfl : runEnd (cfT tpA0) true _ 1000 10 _ _ (ini 24 [.ptr 0 0, .d (.int .i64 n)] [.box 106 [.d (.str s), .d (.bool ok)]]) = some (.d (.int .i64 0), [.box 106 [.d (.str (txt n (s, ok)).2.1), .d (.bool (txt n (s, ok)).2.2)]], _, _)) ⟨decide_eq_true h0, trivial⟩ ⟨.of_eq (by rw [hl]), trivial⟩ ⟨rfl, rfl⟩
  · refine WK.fin okk 1000 10 [(10, .d (.str [a]))] [decide (0 ≤ n), true, true, true, true] [(RV.d (DV.str (txt n (s, ok)).1), RV.d (DV.str [a]))] rfl
      (by kernel_rfl : runEnd (cfT tpA0) true _ 1000 10 _ _ (ini 24 [.ptr 0 0, .d (.int .i64 n)] [.box 106 [.d (.str s), .d (.bool ok)]]) = some (.d (.int .i64 (or0 a)), [.box 106 [.d (.str (txt n (s, ok)).2.1), .d (.bool (txt n (s, ok)).2.2)]], _, _)) ⟨decide_eq_true h0, rfl, rfl, rfl, rfl, trivial⟩ ⟨.of_eq (by rw [hl]), trivial⟩ ⟨?_, rfl⟩
    rw [or0_eq, valB_1]
  · refine WK.fin okk 1000 10 [(10, .d (.str [a, b]))] [decide (0 ≤ n), true, true, true, true, true, true, true, true] [(RV.d (DV.str (txt n (s, ok)).1), RV.d (DV.str [a, b]))] rfl
      (by kernel_rfl : runEnd (cfT tpA0) true _ 1000 10 _ _ (ini 24 [.ptr 0 0, .d (.int .i64 n)] [.box 106 [.d (.str s), .d (.bool ok)]]) = some (.d (.int .i64 (orS (or0 a) b)), [.box 106 [.d (.str (txt n (s, ok)).2.1), .d (.bool (txt n (s, ok)).2.2)]], _, _)) ⟨decide_eq_true h0, rfl, rfl, rfl, rfl, rfl, rfl, rfl, rfl, trivial⟩ ⟨.of_eq (by rw [hl]), trivial⟩ ⟨?_, rfl⟩
    have := a.toNat_lt
    rw [or0_eq, orS_eq _ _ (by omega), valB_2]; congr 2
  · refine WK.fin okk 1000 10 [(10, .d (.str [a, b, c, d]))] [decide (0 ≤ n), true, true, true, true, true, true, true, true, true, true, true, true, true, true, true, true] [(RV.d (DV.str (txt n (s, ok)).1), RV.d (DV.str [a, b, c, d]))] rfl
      (by kernel_rfl : runEnd (cfT tpA0) true _ 1000 10 _ _ (ini 24 [.ptr 0 0, .d (.int .i64 n)] [.box 106 [.d (.str s), .d (.bool ok)]]) = some (.d (.int .i64 (orS (orS (orS (or0 a) b) c) d)), [.box 106 [.d (.str (txt n (s, ok)).2.1), .d (.bool (txt n (s, ok)).2.2)]], _, _)) ⟨decide_eq_true h0, rfl, rfl, rfl, rfl, rfl, rfl, rfl, rfl, rfl, rfl, rfl, rfl, rfl, rfl, rfl, rfl, trivial⟩ ⟨.of_eq (by rw [hl]), trivial⟩ ⟨?_, rfl⟩
    have := a.toNat_lt
    have := b.toNat_lt
    have := c.toNat_lt
    rw [or0_eq, orS_eq _ _ (by omega), orS_eq _ _ (by omega), orS_eq _ _ (by omega), valB_4]; congr 2
def numE : Ent := fun a o => match a, o with
  | [.ptr 0 0, .d (.int .i64 n)], [.box 106 [.d (.str s), .d (.bool b)]] => some (.d (.int .i64 (numT n (s, b)).1), [.box 106 [.d (.str (numT n (s, b)).2.1), .d (.bool (numT n (s, b)).2.2)]], [decide (n = 1 ∨ n = 2 ∨ n = 4)])
  | _, _ => none
theorem txt_len (n : Nat) (q : Qr) : (txt (n : Int) q).1 = [] ∨ (txt (n : Int) q).1.length = n := by
  unfold txt
  split
  · exact .inl rfl
  · right; simp; omega
theorem number_ent : EntOk Try.prog 71 numE := by
  intro a o r o' c hg hc
  unfold numE at hg
  split at hg
  · rename_i n s b
    simp only [Option.some.injEq, Prod.mk.injEq] at hg
    obtain ⟨rfl, rfl, rfl⟩ := hg
    have h := of_decide_eq_true (hc _ (.head _))
    refine number_of n (by omega) s b _ rfl ?_
    rcases h with rfl | rfl | rfl
    · rcases txt_len 1 (s, b) with e | e
      · exact .inl e
      · match (txt 1 (s, b)).1, e with
        | [a], _ => exact .inr (.inl ⟨a, rfl⟩)
    · rcases txt_len 2 (s, b) with e | e
      · exact .inl e
      · match (txt 2 (s, b)).1, e with
        | [a, b], _ => exact .inr (.inr (.inl ⟨a, b, rfl⟩))
    · rcases txt_len 4 (s, b) with e | e
      · exact .inl e
      · match (txt 4 (s, b)).1, e with
        | [a, b, c, d], _ => exact .inr (.inr (.inr ⟨a, b, c, d, rfl⟩))
  · cases hg
noncomputable def tpA : List (Nat × Ent) := (71, numE) :: tpA0
theorem tpA_ok : EntsOk Try.prog tpA := .cons number_ent tpA0_ok
end Go.Proofs.Ytchmeldlpoimnaa
