/-
  The walk of record.Put over any row.
-/
import Derived.Test.YtljfolepmkcjlaaWRAll
namespace Go.Proofs.Ytljfolepmkcjlaa
open Go.RowKit Plain
set_option maxRecDepth 100000

theorem ret_si {a : List UInt8} {b : Int} {p : List UInt8 × Int} (h : p = (a, b)) : Ending.returned (.tuple #[.string ⟨a.toArray⟩, .int .i64 b]) = .returned (.tuple #[.string ⟨p.1.toArray⟩, .int .i64 p.2]) := by rw [h]

theorem putRow_bad {l : List Val} (h : chkRow l ≠ 0) : putRow l = ([], chkRow l) := by unfold putRow; rw [if_pos h]
theorem putRow_long {l : List Val} (h : chkRow l = 0) (h2 : 4000 < (allL l).length) : putRow l = ([], 3) := by unfold putRow; rw [if_neg (by simp [h]), if_pos h2]
theorem putRow_good {l : List Val} (h : chkRow l = 0) (h2 : ¬ 4000 < (allL l).length) : putRow l = (allL l, 0) := by unfold putRow; rw [if_neg (by simp [h]), if_neg (by simpa using h2)]

set_option maxHeartbeats 400000 in
theorem put09_any (A : Option Addr) (c : Nat) (l : List Val) (w : World) (hr : Row w A l) (hl : l.length ≤ 65536) (hw : ∀ v ∈ l, v.wf) :
    Calls Try.prog 55 #[.slice A l.length c] w fun e w' => e = .returned (.tuple #[.string ⟨(putRow l).1.toArray⟩, .int .i64 (putRow l).2]) ∧ Below w.heap.size w w' := by
  have HC := Lib.hid (crow_any A c l w hr hl)
  by_cases h0 : chkRow l = 0
  · obtain ⟨g1, g2⟩ := chkRow_zero h0
    have HA := Lib.hid (fun (w' : World) (hr' : Row w' A l) => all_any A c l w' hr' g1 g2 hw)
    have hall : (allL l).length ≤ 16200 := by
      have := tagsL_length_le l; have := bodiesL_length_le l g2
      simp [allL]; omega
    have HR := Lib.hid hr
    have h0' := h0
    rw [h0] at HC
    have H0 := Lib.hid h0
    clear h0 h0' g1 g2 hw hr hl
    by_cases h4 : 4000 < (allL l).length
    · have HF := Lib.hid (putRow_long H0.out h4)
      generalize allL l = q at *
      have h4' : (4000 : Int) < (q.length : Int) := by omega
      have hq : (q.length : Int) ≤ 16200 := by omega
      clear h4 hall
      go_enter Try.func55, Try.ntmps55
      go_wp2_with (first
        | (go_at_call 76; refine HC.out.mono ?_; rintro e w1 ⟨rfl, b1⟩)
        | (go_at_call 77; refine (HA.out _ (HR.out.below b1 (Nat.le_refl _))).mono ?_; rintro e w2 ⟨rfl, b2⟩))
      go_ret2
      exact ⟨ret_si HF.out, b1.trans (b2.mono b1.size)⟩
    · have HF := Lib.hid (putRow_good H0.out h4)
      generalize allL l = q at *
      have h4' : (q.length : Int) ≤ 4000 := by omega
      have hq0 : (0 : Int) ≤ (q.length : Int) := by omega
      clear h4 hall
      go_enter Try.func55, Try.ntmps55
      go_wp2_with (first
        | (go_at_call 76; refine HC.out.mono ?_; rintro e w1 ⟨rfl, b1⟩)
        | (go_at_call 77; refine (HA.out _ (HR.out.below b1 (Nat.le_refl _))).mono ?_; rintro e w2 ⟨rfl, b2⟩))
      go_ret2
      exact ⟨ret_si HF.out, b1.trans (b2.mono b1.size)⟩
  · have HF := Lib.hid (putRow_bad h0)
    have hne : (chkRow l != 0) = true := by rw [bne_iff_ne]; exact h0
    generalize chkRow l = q at *
    clear h0 hr hl hw
    go_enter Try.func55, Try.ntmps55
    go_wp2_with (go_at_call 76; refine HC.out.mono ?_; rintro e w1 ⟨rfl, b1⟩)
    go_ret2
    exact ⟨ret_si HF.out, b1⟩

end Go.Proofs.Ytljfolepmkcjlaa
