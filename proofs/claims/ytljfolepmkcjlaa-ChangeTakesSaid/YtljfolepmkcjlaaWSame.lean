/-
  The walk of the reference's Same on two rows.
-/
import Derived.Test.YtljfolepmkcjlaaWCheck
import Derived.BigQuiet
namespace Go.Proofs.Ytljfolepmkcjlaa
open Go.RowKit Plain

/-- what Same's loop holds to -/
def SameRel (l m : List Val) (k : Nat) : Prop := k ≤ l.length ∧ l.take k = m.take k
theorem SameRel.good {l m : List Val} {k : Nat} (h : SameRel l m k) (hlm : l.length = m.length) (hk : k < l.length) (he : l[k] = m[k]'(by omega)) : SameRel l m (k + 1) := by
  refine ⟨hk, ?_⟩
  rw [List.take_succ_eq_append_getElem hk, List.take_succ_eq_append_getElem (by omega : k < m.length), h.2, he]
theorem SameRel.fin {l m : List Val} {k : Nat} (h : SameRel l m k) (hlm : l.length = m.length) (hk : ¬ k < l.length) : l = m := by
  have := h.2
  rw [List.take_of_length_le (by omega), List.take_of_length_le (by omega)] at this
  exact this

set_option maxHeartbeats 400000 in
theorem same_any (A C : Option Addr) (c1 c2 : Nat) (l m : List Val) (w : World) (hr : Row w A l) (hs : Row w C m) (hl : l.length ≤ 65536) :
    Calls Try.prog 36 #[.slice A l.length c1, .slice C m.length c2] w fun e w' => e = .returned (.bool (decide (l = m))) ∧ Below w.heap.size w w' := by
  by_cases hlm : l.length = m.length
  · have HLM := Lib.hid hlm
    have hne : ((l.length : Int) != (m.length : Int)) = false := by rw [hlm]; simp
    have HR := Lib.hid hr
    have HS := Lib.hid hs
    obtain ⟨bb, hbb⟩ : ∃ b : Bool, decide (l = m) = b := ⟨_, rfl⟩
    rw [hbb]
    have HBB := Lib.hid hbb
    go_enter Try.func36, Try.ntmps36
    clear hr hs hlm hbb
    go_wp2
    go_loopw [5] (fun i wr => ∃ k : Nat, i = .int .i64 (k : Int) ∧ SameRel l m k ∧ Below w.heap.size w wr) (fun i _ => l.length - (intOf i).toNat)
    case atStart => exact ⟨0, rfl, ⟨by omega, rfl⟩, Below.refl _ _⟩
    case round =>
      obtain ⟨k, rfl, hC, hB⟩ := hrel
      by_cases hk : k < l.length
      · have hlm := HLM.out
        obtain ⟨b, off, hA, hbl, hcell⟩ := HR.out.at (by omega)
        obtain ⟨b', off', hA', hbl', hcell'⟩ := HS.out.at (by omega)
        subst hA hA'
        obtain ⟨x0, x1, x2⟩ := hcell k hk
        obtain ⟨y0, y1, y2⟩ := hcell' k (by omega)
        have d0 : wr.cell? ⟨b, off + k * 3, none⟩ = _ := (hB.cell (p := ⟨b, off + k * 3, none⟩) hbl).trans x0
        have d1 : wr.cell? ⟨b, off + k * 3 + 1, none⟩ = _ := (hB.cell (p := ⟨b, off + k * 3 + 1, none⟩) hbl).trans x1
        have d2 : wr.cell? ⟨b, off + k * 3 + 2, none⟩ = _ := (hB.cell (p := ⟨b, off + k * 3 + 2, none⟩) hbl).trans x2
        have g0 : wr.cell? ⟨b', off' + k * 3, none⟩ = _ := (hB.cell (p := ⟨b', off' + k * 3, none⟩) hbl').trans y0
        have g1 : wr.cell? ⟨b', off' + k * 3 + 1, none⟩ = _ := (hB.cell (p := ⟨b', off' + k * 3 + 1, none⟩) hbl').trans y1
        have g2 : wr.cell? ⟨b', off' + k * 3 + 2, none⟩ = _ := (hB.cell (p := ⟨b', off' + k * 3 + 2, none⟩) hbl').trans y2
        clear x0 x1 x2 y0 y1 y2 hcell hcell'
        have hkI : (k : Int) < (l.length : Int) := by omega
        have hkI2 : (k : Int) < (m.length : Int) := by omega
        have hkm : k < m.length := by omega
        have hgood := fun he => hC.good hlm hk he
        have hbad : l[k] ≠ m[k] → bb = false := fun he => by rw [← HBB.out]; exact decide_eq_false (fun e => he (by subst e; rfl))
        obtain ⟨u, hu⟩ : ∃ u, l[k] = u := ⟨_, rfl⟩
        obtain ⟨v, hv⟩ : ∃ v, m[k] = v := ⟨_, rfl⟩
        rw [hu] at d0 d1 d2 hbad
        rw [hv] at g0 g1 g2 hbad
        have hgood2 : u = v → SameRel l m (k + 1) := fun e => hgood (by rw [hu, hv, e])
        have HG := Lib.hid hgood2
        have HB := Lib.hid hbad
        have hn : ∀ w' : World, (binOp .neq 49 (.agg #[.int .u8 u.k, .int .i64 u.n, .string ⟨u.s.toArray⟩]) (.agg #[.int .u8 v.k, .int .i64 v.n, .string ⟨v.s.toArray⟩])).run Try.prog w' = .ok (.bool (decide (u ≠ v))) w' := fun w' => run_neqv w' u v
        clear hgood hgood2 hbad hC hu hv hk hkm hlm hne
        by_cases huv : u = v
        · have HUV := Lib.hid huv
          rw [decide_eq_false (show ¬ u ≠ v from fun h => h huv)] at hn
          clear huv
          go_wp2_with (go_quiet (fail))
          exact ⟨⟨k + 1, by go_num, HG.out HUV.out, ⟨hB.os, hB.tape, hB.output, hB.size, hB.block⟩⟩, by simp [intOf]; omega⟩
        · rw [decide_eq_true (show u ≠ v from huv)] at hn
          obtain rfl := HB.out huv
          clear huv
          go_wp2_with (go_quiet (fail))
          go_ret
          exact ⟨rfl, ⟨hB.os, hB.tape, hB.output, hB.size, hB.block⟩⟩
      · obtain rfl : bb = true := by rw [← HBB.out]; exact decide_eq_true (hC.fin HLM.out hk)
        have hkI : ¬ (k : Int) < (l.length : Int) := by omega
        go_wp2
        go_ret
        exact ⟨rfl, hB⟩
  · have hne : ((l.length : Int) != (m.length : Int)) = true := by rw [bne_iff_ne]; omega
    have hd : decide (l = m) = false := decide_eq_false (fun e => hlm (by rw [e]))
    rw [hd]
    clear hr hs hl hlm hd
    go_enter Try.func36, Try.ntmps36
    go_wp2
    go_ret
    exact ⟨rfl, Below.refl _ _⟩
end Go.Proofs.Ytljfolepmkcjlaa
