/-
  The walk of layer 1's reference, Take: it answers takeN.
-/
import Derived.Test.YtljfolepmkcjlaaWTake
namespace Go.Proofs.Ytljfolepmkcjlaa
open Go.RowKit Plain
set_option maxRecDepth 100000

/-- the second loop: i of the k + 1 bytes have been read -/
def ReadRel (l : Bs) (k i m : Nat) : Prop := (i ≤ k ∧ TakeRel l i m) ∨ (i = k + 1 ∧ scan 0 0 l = (k + 1, m, true))

theorem ReadRel.start (l : Bs) (k : Nat) : ReadRel l k 0 0 := .inl ⟨by omega, TakeRel.start l⟩
theorem ReadRel.fin {l : Bs} {k m : Nat} (h : ReadRel l k (k + 1) m) : scan 0 0 l = (k + 1, m, true) := by
  rcases h with ⟨h, _⟩ | ⟨_, h⟩
  · omega
  · exact h
theorem ReadRel.rel {l : Bs} {k i m : Nat} (h : ReadRel l k i m) (hi : i < k + 1) : TakeRel l i m := by
  rcases h with ⟨_, h⟩ | ⟨h, _⟩
  · exact h
  · omega

/-- the first loop: k bytes with high bits -/
def HighBytes (l : Bs) (k : Nat) : Prop := k ≤ 8 ∧ k ≤ l.length ∧ ∀ j (hj : j < l.length), j < k → 128 ≤ (l[j]).toNat

theorem HighBytes.rel {l : Bs} {k : Nat} (h : HighBytes l k) : ∃ m, TakeRel l k m := by
  obtain ⟨h1, h2, h3⟩ := h
  have key : ∀ i, i ≤ k → ∃ m, TakeRel l i m := by
    intro i
    induction i with
    | zero => exact fun _ => ⟨0, TakeRel.start l⟩
    | succ i ih =>
      intro hi
      obtain ⟨m, hm⟩ := ih (by omega)
      exact ⟨_, hm.next (by omega) (by omega) (h3 i (by omega) (by omega))⟩
  exact key k (Nat.le_refl _)

theorem ReadRel.next8 {l : Bs} {m : Nat} (h : ReadRel l 8 8 m) (hk : 8 < l.length) : ReadRel l 8 9 (256 * m + (l[8]).toNat) := by
  have h2 := (h.rel (by omega)).end8 hk
  rw [show m * 256 + (l[8]).toNat = 256 * m + (l[8]).toNat by omega] at h2
  exact .inr ⟨rfl, h2⟩
theorem ReadRel.next {l : Bs} {k j m : Nat} (h : ReadRel l k j m) (hk : k < l.length) (hk8 : k ≤ 8) (hb : ∀ j (hj : j < l.length), j < k → 128 ≤ (l[j]).toNat) (hl : k = 8 ∨ (l[k]).toNat < 128) (hj : j < k + 1) (hj8 : j ≠ 8) :
    ReadRel l k (j + 1) (128 * m + (l[j]'(by omega)).toNat % 128) := by
  have h1 := h.rel hj
  have hlt := (l[j]'(by omega)).toNat_lt
  rcases Nat.lt_or_ge j k with hjk | hjk
  · have h2 := h1.next (by omega) hj8 (hb j (by omega) hjk)
    have h3 := hb j (by omega) hjk
    rw [show m * 128 + ((l[j]'(by omega)).toNat - 128) = 128 * m + (l[j]'(by omega)).toNat % 128 by omega] at h2
    exact .inl ⟨by omega, h2⟩
  · obtain rfl : j = k := by omega
    have h3 : (l[j]).toNat < 128 := by rcases hl with hl | hl <;> omega
    have h2 := h1.endc hk hj8 h3
    rw [show m * 128 + (l[j]).toNat = 128 * m + (l[j]).toNat % 128 by omega] at h2
    exact .inr ⟨rfl, h2⟩
theorem ReadRel.bound {l : Bs} {k j m : Nat} (h : ReadRel l k j m) (hj : j < k + 1) : m < 72057594037927936 := (h.rel hj).bound

set_option maxHeartbeats 400000 in
theorem rtake_any (l : Bs) (w : World) (hl : l.length ≤ 65536) :
    Calls Try.prog 47 #[.string ⟨l.toArray⟩] w fun e w' => e = .returned (.tuple #[.int .u64 ((takeN l).1 : Nat), .int .i64 ((takeN l).2.1 : Nat), .int .i64 ((takeN l).2.2 : Nat)]) ∧ Below w.heap.size w w' := by
  have hstart : HighBytes l 0 := ⟨by omega, by omega, fun j _ hj => by omega⟩
  have hlen : (l.length : Int) ≤ 65536 := by omega
  have hlen0 : (0 : Int) ≤ (l.length : Int) := by omega
  go_enter Try.func47, Try.ntmps47
  clear hl
  go_wp2
  go_loop [5] (fun a => ∃ k : Nat, a = .int .i64 (k : Int) ∧ HighBytes l k) (fun a => 8 - (intOf a).toNat)
  case atStart => exact ⟨0, rfl, hstart⟩
  case round =>
    obtain ⟨k, rfl, hR⟩ := hrel
    clear hstart
    by_cases hk : k < l.length
    · obtain ⟨xi, hxi⟩ : ∃ xi : Int, ((l[k]).toNat : Int) = xi := ⟨_, rfl⟩
      have hidx : ∀ w' : World, (Instr.index 9 (.string ⟨l.toArray⟩) (.int .i64 (k : Int))).run Try.prog w' = .ok (.int .u8 xi) w' := fun w' => by rw [run_index_bytes w' l k hk, hxi]
      have hkI : (k : Int) < (l.length : Int) := by omega
      by_cases hgo : k < 8 ∧ 128 ≤ (l[k]).toNat
      · have hxI : 128 ≤ xi := by omega
        have hk8 : (k : Int) < 8 := by omega
        have HR := Lib.hid hR
        have HG := Lib.hid hgo
        clear hR hxi hgo
        go_wp2
        go_round
        case rel => exact ⟨k + 1, by go_num, by have h := HR.out; have g := HG.out; exact ⟨by omega, by have := h.2.1; omega, fun j hj hjk => by
          rcases Nat.lt_or_ge j k with h1 | h1
          · exact h.2.2 j hj h1
          · obtain rfl : j = k := by omega
            exact g.2⟩⟩
        case measure => simp [intOf]; omega
      · have hcase : k = 8 ∨ (k < 8 ∧ xi < 128) := by have := hR.1; omega
        have hkl : ((k : Int) == (l.length : Int)) = false := beq_eq_false_iff_ne.2 (by omega)
        have HR := Lib.hid hR
        have HX := Lib.hid hxi
        have HK := Lib.hid hk
        clear hR hxi hgo
        rcases hcase with hc | ⟨hc, hc2⟩
        · subst hc
          go_wp2
          go_loop [6, 7] (fun a i => ∃ j m : Nat, a = .int .u64 (m : Int) ∧ i = .int .i64 (j : Int) ∧ j ≤ 8 + 1 ∧ ReadRel l 8 j m) (fun _ i => 8 + 1 - (intOf i).toNat)
          case atStart => exact ⟨0, 0, rfl, rfl, by omega, ReadRel.start l _⟩
          case round =>
            obtain ⟨j, m, rfl, rfl, hjk, hRR⟩ := hrel
            by_cases hj : j < 8 + 1
            · have hjl : j < l.length := by omega
              obtain ⟨yi, hyi⟩ : ∃ yi : Int, ((l[j]).toNat : Int) = yi := ⟨_, rfl⟩
              have hlt := (l[j]).toNat_lt
              have hy0 : 0 ≤ yi := by omega
              have hy1 : yi < 256 := by omega
              have hidy : ∀ w' : World, (Instr.index 9 (.string ⟨l.toArray⟩) (.int .i64 (j : Int))).run Try.prog w' = .ok (.int .u8 yi) w' := fun w' => by rw [run_index_bytes w' l j hjl, hyi]
              have hbd := Lib.hid (hRR.bound hj)
              have HY := Lib.hid hyi
              have HRR := Lib.hid hRR
              clear hRR hyi hlt hidx
              by_cases hj8 : j = 8
              · have e8 : ((j : Int) == 8) = true := beq_iff_eq.2 (by omega)
                have HJ := Lib.hid hj8
                clear hj8
                go_wp2
                go_round
                case rel => exact ⟨j + 1, 256 * m + (l[j]).toNat, by rw [IntKind.wrap_u64, IntKind.wrap_u64]; have := hbd.out; have := HY.out; congr 1; omega, by go_num, by omega, by
                  have h := HJ.out
                  subst h
                  exact HRR.out.next8 hjl⟩
                case measure => simp [intOf]; omega
              · have e8 : ((j : Int) == 8) = false := beq_eq_false_iff_ne.2 (by omega)
                have HJ := Lib.hid hj8
                clear hj8
                go_wp2
                go_round
                case rel => exact ⟨j + 1, 128 * m + (l[j]).toNat % 128, by rw [IntKind.wrap_u64, IntKind.wrap_u64]; have := hbd.out; have := HY.out; congr 1; omega, by go_num, by omega, HRR.out.next hk (by omega) HR.out.2.2 (.inl rfl) hj HJ.out⟩
                case measure => simp [intOf]; omega
            · obtain rfl : j = 8 + 1 := by omega
              have hs := hRR.fin
              have hsz : m < 18446744073709551616 := by have := scan_spec l 0 0 (by omega) (by simp) (by rw [hs]); rw [hs] at this; exact this.2.2.2.1
              have hput := Lib.hid (fun w' => rput_any m w' hsz)
              have hex : (⟨l.toArray⟩ : ByteArray).extract 0 9 = ⟨(l.take 9).toArray⟩ := by rw [extract_bytes]; simp
              have hiff := scan_put l (by rw [hs])
              rw [hs] at hiff
              have hT := takeN_of_scan hs
              have HT := Lib.hid hT
              have HI := Lib.hid hiff
              have hne : (putN m == ((⟨l.toArray⟩ : ByteArray).extract 0 9).toList) = decide (putN m = l.take 9) := by
                rw [hex, ByteArray.toList_eq, Bool.eq_iff_iff]
                simp
              clear hRR hs hsz hex hT hiff hidx
              obtain ⟨b, hpe⟩ : ∃ b, decide (putN m = l.take 9) = b := ⟨_, rfl⟩
              rw [hpe] at hne
              have HP := Lib.hid hpe
              clear hpe
              cases b
              all_goals
                go_wp2
                go_region_with (go_at_call 67; refine (hput.out _).mono ?_; rintro e w' ⟨rfl, hb⟩)
                all_goals
                  go_wp2
                  go_ret3
                  exact ⟨ret3 (by rw [HT.out]; first | (rw [if_pos (HI.out.2 (of_decide_eq_true HP.out))]; rfl) | (rw [if_neg (fun h => absurd (HI.out.1 h) (of_decide_eq_false HP.out))]; rfl)), (Below.refl _ w).drew.trans hb⟩
        · have hk8 : (k : Int) < 8 := by omega
          go_wp2
          go_loop [6, 7] (fun a i => ∃ j m : Nat, a = .int .u64 (m : Int) ∧ i = .int .i64 (j : Int) ∧ j ≤ k + 1 ∧ ReadRel l k j m) (fun _ i => k + 1 - (intOf i).toNat)
          case atStart => exact ⟨0, 0, rfl, rfl, by omega, ReadRel.start l _⟩
          case round =>
            obtain ⟨j, m, rfl, rfl, hjk, hRR⟩ := hrel
            by_cases hj : j < k + 1
            · have hjl : j < l.length := by omega
              obtain ⟨yi, hyi⟩ : ∃ yi : Int, ((l[j]).toNat : Int) = yi := ⟨_, rfl⟩
              have hlt := (l[j]).toNat_lt
              have hy0 : 0 ≤ yi := by omega
              have hy1 : yi < 256 := by omega
              have hidy : ∀ w' : World, (Instr.index 9 (.string ⟨l.toArray⟩) (.int .i64 (j : Int))).run Try.prog w' = .ok (.int .u8 yi) w' := fun w' => by rw [run_index_bytes w' l j hjl, hyi]
              have hbd := Lib.hid (hRR.bound hj)
              have HY := Lib.hid hyi
              have HRR := Lib.hid hRR
              clear hRR hyi hlt hidx
              by_cases hj8 : j = 8
              · have e8 : ((j : Int) == 8) = true := beq_iff_eq.2 (by omega)
                have HJ := Lib.hid hj8
                clear hj8
                go_wp2
                go_round
                case rel => exact ⟨j + 1, 256 * m + (l[j]).toNat, by rw [IntKind.wrap_u64, IntKind.wrap_u64]; have := hbd.out; have := HY.out; congr 1; omega, by go_num, by omega, by
                  have h := HJ.out
                  subst h
                  omega⟩
                case measure => simp [intOf]; omega
              · have e8 : ((j : Int) == 8) = false := beq_eq_false_iff_ne.2 (by omega)
                have HJ := Lib.hid hj8
                clear hj8
                go_wp2
                go_round
                case rel => exact ⟨j + 1, 128 * m + (l[j]).toNat % 128, by rw [IntKind.wrap_u64, IntKind.wrap_u64]; have := hbd.out; have := HY.out; congr 1; omega, by go_num, by omega, HRR.out.next hk (by omega) HR.out.2.2 (.inr (by have := HX.out; omega)) hj HJ.out⟩
                case measure => simp [intOf]; omega
            · obtain rfl : j = k + 1 := by omega
              have hs := hRR.fin
              have hsz : m < 18446744073709551616 := by have := scan_spec l 0 0 (by omega) (by simp) (by rw [hs]); rw [hs] at this; exact this.2.2.2.1
              have hput := Lib.hid (fun w' => rput_any m w' hsz)
              have hex : (⟨l.toArray⟩ : ByteArray).extract 0 (k + 1) = ⟨(l.take (k + 1)).toArray⟩ := by rw [extract_bytes]; simp
              have hiff := scan_put l (by rw [hs])
              rw [hs] at hiff
              have hT := takeN_of_scan hs
              have HT := Lib.hid hT
              have HI := Lib.hid hiff
              have hne : (putN m == ((⟨l.toArray⟩ : ByteArray).extract 0 (k + 1)).toList) = decide (putN m = l.take (k + 1)) := by
                rw [hex, ByteArray.toList_eq, Bool.eq_iff_iff]
                simp
              clear hRR hs hsz hex hT hiff hidx
              obtain ⟨b, hpe⟩ : ∃ b, decide (putN m = l.take (k + 1)) = b := ⟨_, rfl⟩
              rw [hpe] at hne
              have HP := Lib.hid hpe
              clear hpe
              cases b
              all_goals
                go_wp2
                go_region_with (go_at_call 67; refine (hput.out _).mono ?_; rintro e w' ⟨rfl, hb⟩)
                all_goals
                  go_wp2
                  go_ret3
                  exact ⟨ret3 (by rw [HT.out]; first | (rw [if_pos (HI.out.2 (of_decide_eq_true HP.out))]; rfl) | (rw [if_neg (fun h => absurd (HI.out.1 h) (of_decide_eq_false HP.out))]; rfl)), (Below.refl _ w).drew.trans hb⟩
    · have hkl : k = l.length := by have := hR.2.1; omega
      obtain ⟨m, hm⟩ := hR.rel
      have HF := Lib.hid (hm.endl hkl)
      have hkI : ¬ (k : Int) < (l.length : Int) := by omega
      have hkl' : ((k : Int) == (l.length : Int)) = true := beq_iff_eq.2 (by omega)
      clear hR hk hm hkl
      go_wp2
      go_ret3
      exact ⟨ret3 (by rw [HF.out]; rfl), Below.refl _ _⟩
end Go.Proofs.Ytljfolepmkcjlaa
