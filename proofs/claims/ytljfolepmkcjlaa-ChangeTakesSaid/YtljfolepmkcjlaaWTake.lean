/-
  The walks of number.Take and of its reference: they answer takeN.
-/
import Derived.Test.YtljfolepmkcjlaaWRNum
namespace Go.Proofs.Ytljfolepmkcjlaa
open Go.RowKit Plain
set_option maxRecDepth 100000

/-- what the loop of Take holds to: k bytes have been gone through, all with their high bits. -/
def TakeRel (l : Bs) (k m : Nat) : Prop :=
  k ≤ 8 ∧ k ≤ l.length ∧ scan 0 0 l = scan k m (l.drop k) ∧ m < 128 ^ k ∧ ∀ (h : k - 1 < l.length), 0 < k → 128 ≤ (l[k - 1]).toNat

theorem TakeRel.start (l : Bs) : TakeRel l 0 0 := ⟨by omega, by omega, by simp, by simp, fun _ h => absurd h (by omega)⟩
theorem TakeRel.next {l : Bs} {k m : Nat} (h : TakeRel l k m) (hk : k < l.length) (h8 : k ≠ 8) (hb : 128 ≤ (l[k]).toNat) : TakeRel l (k + 1) (m * 128 + ((l[k]).toNat - 128)) := by
  obtain ⟨h1, h2, h3, h4, h5⟩ := h
  refine ⟨by omega, by omega, ?_, ?_, fun _ _ => hb⟩
  · rw [h3, List.drop_eq_getElem_cons hk, scan, if_neg h8, if_neg (by omega)]
  · have := (l[k]).toNat_lt
    rw [Nat.pow_succ]; omega
theorem TakeRel.end8 {l : Bs} {m : Nat} (h : TakeRel l 8 m) (hk : 8 < l.length) : scan 0 0 l = (9, m * 256 + (l[8]).toNat, true) := by
  obtain ⟨h1, h2, h3, h4, h5⟩ := h
  rw [h3, List.drop_eq_getElem_cons hk, scan, if_pos rfl]
theorem TakeRel.endc {l : Bs} {k m : Nat} (h : TakeRel l k m) (hk : k < l.length) (h8 : k ≠ 8) (hb : (l[k]).toNat < 128) : scan 0 0 l = (k + 1, m * 128 + (l[k]).toNat, true) := by
  obtain ⟨h1, h2, h3, h4, h5⟩ := h
  rw [h3, List.drop_eq_getElem_cons hk, scan, if_neg h8, if_pos hb]
theorem TakeRel.endl {l : Bs} {k m : Nat} (h : TakeRel l k m) (hk : k = l.length) : takeN l = (0, 0, 10) := by
  obtain ⟨h1, h2, h3, h4, h5⟩ := h
  subst hk
  rw [List.drop_length] at h3
  unfold takeN
  rw [h3]
  simp [scan]
theorem TakeRel.bound {l : Bs} {k m : Nat} (h : TakeRel l k m) : m < 72057594037927936 := by
  obtain ⟨h1, h2, h3, h4, h5⟩ := h
  have : 128 ^ k ≤ 128 ^ 8 := Nat.pow_le_pow_right (by omega) h1
  omega
theorem takeN_of_scan {l : Bs} {k n : Nat} (h : scan 0 0 l = (k, n, true)) : takeN l = if (putN n).length = k then (n, k, 0) else (0, 0, 11) := by
  unfold takeN
  rw [h]
  simp

theorem ret3 {a b c a' b' c' : Int} (h : (a', b', c') = (a, b, c)) : Ending.returned (.tuple #[.int .u64 a, .int .i64 b, .int .i64 c]) = .returned (.tuple #[.int .u64 a', .int .i64 b', .int .i64 c']) := by
  simp only [Prod.mk.injEq] at h
  obtain ⟨rfl, rfl, rfl⟩ := h
  rfl
theorem takeN_case {l : Bs} {k n : Nat} (h : scan 0 0 l = (k, n, true)) : ((putN n).length = k ∧ takeN l = (n, k, 0)) ∨ ((putN n).length ≠ k ∧ takeN l = (0, 0, 11)) := by
  rw [takeN_of_scan h]
  by_cases hk : (putN n).length = k
  · exact .inl ⟨hk, by rw [if_pos hk]⟩
  · exact .inr ⟨hk, by rw [if_neg hk]⟩

theorem or_join (m c s : Nat) (p : Int) (hp : p = ((m * 2 ^ s : Nat) : Int)) (hm : m * 2 ^ s + c < 18446744073709551616) (hc : c < 2 ^ s) : bits .or .u64 p (c : Int) = ((m * 2 ^ s + c : Nat) : Int) := by
  rw [hp, u64_or_nat _ _ (by omega) (by omega), nat_join s _ _ (by simp) hc]
theorem and_127_u8 (c : Nat) (h : c < 256) (h2 : 128 ≤ c) : bits .and .u8 (c : Int) 127 = ((c - 128 : Nat) : Int) := by
  have e := u8_and_nat c 127 h (by omega)
  rw [show c &&& 127 = c % 128 from Nat.and_two_pow_sub_one_eq_mod c 7, show c % 128 = c - 128 by omega] at e
  exact e

set_option maxHeartbeats 400000 in
theorem take_any (l : Bs) (w : World) (hl : l.length ≤ 65536) :
    Calls Try.prog 44 #[.string ⟨l.toArray⟩] w fun e w' => e = .returned (.tuple #[.int .u64 ((takeN l).1 : Nat), .int .i64 ((takeN l).2.1 : Nat), .int .i64 ((takeN l).2.2 : Nat)]) ∧ Below w.heap.size w w' := by
  by_cases h9 : 9 < l.length
  · obtain ⟨cap, W1, hcv, hB, hc, hz⟩ := run_bytes w (l.take 9)
    have e9 : (l.take 9).length = 9 := by rw [List.length_take]; omega
    have ex : (⟨l.toArray⟩ : ByteArray).extract 0 9 = ⟨(l.take 9).toArray⟩ := extract_bytes l 0 9
    rw [e9, ← ex] at hcv
    clear ex
    have hc' : ∀ k (hk : k < l.length), k < 9 → W1.cell? ⟨w.heap.size, k, none⟩ = some (.int .u8 ((l[k]).toNat : Int)) := fun k hk hk9 => by
      have := hc k (by omega)
      rwa [List.getElem_take] at this
    have h9' : (9 : Int) < (l.length : Int) := by omega
    have HC := Lib.hid hc'
    have HB := Lib.hid hB
    clear hc hc' hB hz e9
    go_enter Try.func44, Try.ntmps44
    go_wp2
    go_step3
    go_wp2
    go_step3
    go_wp2
    go_loop [5, 6, 16] (fun a b i => ∃ k m : Nat, a = .int .u64 (m : Int) ∧ b = .int .i64 (k : Int) ∧ i = .int .i64 (k : Int) ∧ TakeRel l k m) (fun _ _ i => 9 - (intOf i).toNat)
    case atStart => exact ⟨0, 0, rfl, rfl, rfl, TakeRel.start l⟩
    case round =>
      obtain ⟨k, m, rfl, rfl, rfl, hR⟩ := hrel
      by_cases hk : k < l.length
      · have hcell := HC.out k hk (by have := hR.1; omega)
        have hb256 := (l[k]).toNat_lt
        have hmb := hR.bound
        by_cases h8 : k = 8
        · subst h8
          have hs := hR.end8 hk
          generalize hx : (l[8]).toNat = x at *
          have ho := or_join m x 8 (IntKind.u64.wrap ((m : Int) * 256)) (by rw [IntKind.wrap_u64]; omega) (by omega) (by omega)
          have hbd : m * 2 ^ 8 + x < 18446744073709551616 := by omega
          have HT := takeN_case hs
          generalize hN : m * 2 ^ 8 + x = N at *
          have hsz := Lib.hid (fun w' => size_any N w' hbd)
          clear hR hs hmb hx hN hbd
          rcases HT with ⟨ht1, ht2⟩ | ⟨ht1, ht2⟩
          · have e1 : ((((putN N).length : Nat) : Int) != 9) = false := by rw [ht1]; rfl
            have HT := Lib.hid ht2
            clear ht1 ht2
            go_wp2_with (go_at_call 64; refine (hsz.out _).mono ?_; rintro e w' ⟨rfl, rfl⟩)
            rw [Exit.noGoto_ret]
            go_ret3
            exact ⟨ret3 (by rw [HT.out]; rfl), HB.out⟩
          · have e1 : ((((putN N).length : Nat) : Int) != 9) = true := by rw [bne_iff_ne]; omega
            have HT := Lib.hid ht2
            clear ht1 ht2
            go_wp2_with (go_at_call 64; refine (hsz.out _).mono ?_; rintro e w' ⟨rfl, rfl⟩)
            rw [Exit.noGoto_ret]
            go_ret3
            exact ⟨ret3 (by rw [HT.out]; rfl), HB.out⟩
        · by_cases hb : (l[k]).toNat < 128
          · have hs := hR.endc hk h8 hb
            generalize hx : (l[k]).toNat = x at *
            have ho := or_join m x 7 (IntKind.u64.wrap ((m : Int) * 128)) (by rw [IntKind.wrap_u64]; omega) (by omega) (by omega)
            have hbd : m * 2 ^ 7 + x < 18446744073709551616 := by omega
            have HT := takeN_case hs
            have hk7 : k ≤ 7 := by have := hR.1; omega
            have h8' : ((k : Int) + 1 == 9) = false := beq_eq_false_iff_ne.2 (by omega)
            have h00 : ((k : Int) + 1 == 0) = false := beq_eq_false_iff_ne.2 (by omega)
            generalize hN : m * 2 ^ 7 + x = N at *
            have hsz := Lib.hid (fun w' => size_any N w' hbd)
            have HX := Lib.hid hx
            clear hR hs hmb hN hbd h8 hx
            have hbI : (x : Int) < 128 := by omega
            have hb0 : (0 : Int) ≤ (x : Int) := by omega
            obtain ⟨xi, hxi⟩ : ∃ xi : Int, (x : Int) = xi := ⟨_, rfl⟩
            rw [hxi] at hcell ho hbI hb0
            have hidx : ∀ w' : World, (Instr.index 9 (.string ⟨l.toArray⟩) (.int .i64 (k : Int))).run Try.prog w' = .ok (.int .u8 xi) w' := fun w' => by rw [run_index_bytes w' l k hk, HX.out, hxi]
            clear hb hb256 hxi HX
            rcases HT with ⟨ht1, ht2⟩ | ⟨ht1, ht2⟩
            · have e1 : ((((putN N).length : Nat) : Int) != (k : Int) + 1) = false := by rw [ht1]; simp
              have HT := Lib.hid ht2
              clear ht1 ht2
              go_wp2_with (go_at_call 64; refine (hsz.out _).mono ?_; rintro e w' ⟨rfl, rfl⟩)
              rw [Exit.noGoto_ret]
              go_ret3
              exact ⟨ret3 (by rw [HT.out]; rfl), HB.out⟩
            · have e1 : ((((putN N).length : Nat) : Int) != (k : Int) + 1) = true := by rw [bne_iff_ne]; omega
              have HT := Lib.hid ht2
              clear ht1 ht2
              go_wp2_with (go_at_call 64; refine (hsz.out _).mono ?_; rintro e w' ⟨rfl, rfl⟩)
              rw [Exit.noGoto_ret]
              go_ret3
              exact ⟨ret3 (by rw [HT.out]; rfl), HB.out⟩
          · have hn := hR.next hk h8 (by omega)
            generalize hx : (l[k]).toNat = x at *
            have ha := and_127_u8 x (by omega) (by omega)
            have ho := or_join m (x - 128) 7 (IntKind.u64.wrap ((m : Int) * 128)) (by rw [IntKind.wrap_u64]; omega) (by omega) (by omega)
            have hk7 : k ≤ 7 := by have := hR.1; omega
            have h8' : ((k : Int) + 1 == 9) = false := beq_eq_false_iff_ne.2 (by omega)
            have hbI : (128 : Int) ≤ (x : Int) := by omega
            have hbd : decide ((x : Int) < 128) = false := decide_eq_false (by omega)
            generalize hy : x - 128 = y at *
            obtain ⟨xi, hxi⟩ : ∃ xi : Int, (x : Int) = xi := ⟨_, rfl⟩
            obtain ⟨yi, hyi⟩ : ∃ yi : Int, (y : Int) = yi := ⟨_, rfl⟩
            have hy0 : 0 ≤ yi := by omega
            have hy1 : yi < 128 := by omega
            rw [hxi] at hcell ha hbI hbd
            rw [hyi] at ha ho
            have HN := Lib.hid hn
            clear hR hn hmb h8 hb hb256 hx hxi hyi hy hbI
            go_wp2
            go_round
            case rel => exact ⟨k + 1, m * 128 + y, by go_num, by go_num, by go_num, HN.out⟩
            case measure => simp [intOf]; omega
      · exfalso
        have := hR.1
        omega
  · obtain ⟨cap, W1, hcv, hB, hc, hz⟩ := run_bytes w l
    have ex : (⟨l.toArray⟩ : ByteArray).extract 0 l.length = ⟨l.toArray⟩ := by rw [extract_bytes]; simp
    have hcv2 := hcv
    rw [← ex] at hcv2
    clear ex
    have h9' : (l.length : Int) ≤ 9 := by omega
    have hc' := hc
    have HC := Lib.hid hc'
    have HB := Lib.hid hB
    clear hc hc' hB hz
    go_enter Try.func44, Try.ntmps44
    go_wp2
    go_step3
    go_wp2
    go_step3
    go_wp2
    go_loop [5, 6, 16] (fun a b i => ∃ k m : Nat, a = .int .u64 (m : Int) ∧ b = .int .i64 (k : Int) ∧ i = .int .i64 (k : Int) ∧ TakeRel l k m) (fun _ _ i => 9 - (intOf i).toNat)
    case atStart => exact ⟨0, 0, rfl, rfl, rfl, TakeRel.start l⟩
    case round =>
      obtain ⟨k, m, rfl, rfl, rfl, hR⟩ := hrel
      by_cases hk : k < l.length
      · have hcell := HC.out k hk
        have hb256 := (l[k]).toNat_lt
        have hmb := hR.bound
        by_cases h8 : k = 8
        · subst h8
          have hs := hR.end8 hk
          generalize hx : (l[8]).toNat = x at *
          have ho := or_join m x 8 (IntKind.u64.wrap ((m : Int) * 256)) (by rw [IntKind.wrap_u64]; omega) (by omega) (by omega)
          have hbd : m * 2 ^ 8 + x < 18446744073709551616 := by omega
          have HT := takeN_case hs
          generalize hN : m * 2 ^ 8 + x = N at *
          have hsz := Lib.hid (fun w' => size_any N w' hbd)
          clear hR hs hmb hx hN hbd
          rcases HT with ⟨ht1, ht2⟩ | ⟨ht1, ht2⟩
          · have e1 : ((((putN N).length : Nat) : Int) != 9) = false := by rw [ht1]; rfl
            have HT := Lib.hid ht2
            clear ht1 ht2
            go_wp2_with (go_at_call 64; refine (hsz.out _).mono ?_; rintro e w' ⟨rfl, rfl⟩)
            rw [Exit.noGoto_ret]
            go_ret3
            exact ⟨ret3 (by rw [HT.out]; rfl), HB.out⟩
          · have e1 : ((((putN N).length : Nat) : Int) != 9) = true := by rw [bne_iff_ne]; omega
            have HT := Lib.hid ht2
            clear ht1 ht2
            go_wp2_with (go_at_call 64; refine (hsz.out _).mono ?_; rintro e w' ⟨rfl, rfl⟩)
            rw [Exit.noGoto_ret]
            go_ret3
            exact ⟨ret3 (by rw [HT.out]; rfl), HB.out⟩
        · by_cases hb : (l[k]).toNat < 128
          · have hs := hR.endc hk h8 hb
            generalize hx : (l[k]).toNat = x at *
            have ho := or_join m x 7 (IntKind.u64.wrap ((m : Int) * 128)) (by rw [IntKind.wrap_u64]; omega) (by omega) (by omega)
            have hbd : m * 2 ^ 7 + x < 18446744073709551616 := by omega
            have HT := takeN_case hs
            have hk7 : k ≤ 7 := by have := hR.1; omega
            have h8' : ((k : Int) + 1 == 9) = false := beq_eq_false_iff_ne.2 (by omega)
            have h00 : ((k : Int) + 1 == 0) = false := beq_eq_false_iff_ne.2 (by omega)
            generalize hN : m * 2 ^ 7 + x = N at *
            have hsz := Lib.hid (fun w' => size_any N w' hbd)
            have HX := Lib.hid hx
            clear hR hs hmb hN hbd h8 hx
            have hbI : (x : Int) < 128 := by omega
            have hb0 : (0 : Int) ≤ (x : Int) := by omega
            obtain ⟨xi, hxi⟩ : ∃ xi : Int, (x : Int) = xi := ⟨_, rfl⟩
            rw [hxi] at hcell ho hbI hb0
            have hidx : ∀ w' : World, (Instr.index 9 (.string ⟨l.toArray⟩) (.int .i64 (k : Int))).run Try.prog w' = .ok (.int .u8 xi) w' := fun w' => by rw [run_index_bytes w' l k hk, HX.out, hxi]
            clear hb hb256 hxi HX
            rcases HT with ⟨ht1, ht2⟩ | ⟨ht1, ht2⟩
            · have e1 : ((((putN N).length : Nat) : Int) != (k : Int) + 1) = false := by rw [ht1]; simp
              have HT := Lib.hid ht2
              clear ht1 ht2
              go_wp2_with (go_at_call 64; refine (hsz.out _).mono ?_; rintro e w' ⟨rfl, rfl⟩)
              rw [Exit.noGoto_ret]
              go_ret3
              exact ⟨ret3 (by rw [HT.out]; rfl), HB.out⟩
            · have e1 : ((((putN N).length : Nat) : Int) != (k : Int) + 1) = true := by rw [bne_iff_ne]; omega
              have HT := Lib.hid ht2
              clear ht1 ht2
              go_wp2_with (go_at_call 64; refine (hsz.out _).mono ?_; rintro e w' ⟨rfl, rfl⟩)
              rw [Exit.noGoto_ret]
              go_ret3
              exact ⟨ret3 (by rw [HT.out]; rfl), HB.out⟩
          · have hn := hR.next hk h8 (by omega)
            generalize hx : (l[k]).toNat = x at *
            have ha := and_127_u8 x (by omega) (by omega)
            have ho := or_join m (x - 128) 7 (IntKind.u64.wrap ((m : Int) * 128)) (by rw [IntKind.wrap_u64]; omega) (by omega) (by omega)
            have hk7 : k ≤ 7 := by have := hR.1; omega
            have h8' : ((k : Int) + 1 == 9) = false := beq_eq_false_iff_ne.2 (by omega)
            have hbI : (128 : Int) ≤ (x : Int) := by omega
            have hbd : decide ((x : Int) < 128) = false := decide_eq_false (by omega)
            generalize hy : x - 128 = y at *
            obtain ⟨xi, hxi⟩ : ∃ xi : Int, (x : Int) = xi := ⟨_, rfl⟩
            obtain ⟨yi, hyi⟩ : ∃ yi : Int, (y : Int) = yi := ⟨_, rfl⟩
            have hy0 : 0 ≤ yi := by omega
            have hy1 : yi < 128 := by omega
            rw [hxi] at hcell ha hbI hbd
            rw [hyi] at ha ho
            have HN := Lib.hid hn
            clear hR hn hmb h8 hb hb256 hx hxi hyi hy hbI
            go_wp2
            go_round
            case rel => exact ⟨k + 1, m * 128 + y, by go_num, by go_num, by go_num, HN.out⟩
            case measure => simp [intOf]; omega
      · have hkl : k = l.length := by have := hR.2.1; omega
        have HF := Lib.hid (hR.endl hkl)
        rcases k with _ | j
        · have hl0 : (l.length : Int) ≤ 0 := by omega
          clear hR hkl hk h9 h9' hl
          go_wp2
          try rw [Exit.noGoto_ret]
          go_ret3
          exact ⟨ret3 (by rw [HF.out]; rfl), HB.out⟩
        · have hj : j < l.length := by omega
          have hj8 : j ≤ 7 := by have := hR.1; omega
          have hlast := hR.2.2.2.2 (by simpa using hj) (by omega)
          simp only [Nat.add_sub_cancel] at hlast
          obtain ⟨xi, hxi⟩ : ∃ xi : Int, ((l[j]).toNat : Int) = xi := ⟨_, rfl⟩
          have hx128 : 128 ≤ xi := by omega
          have hidx : ∀ w' : World, (Instr.index 9 (.string ⟨l.toArray⟩) (.int .i64 (j : Int))).run Try.prog w' = .ok (.int .u8 xi) w' := fun w' => by rw [run_index_bytes w' l j hj, hxi]
          have hge : ¬ ((j : Int) + 1 < (l.length : Int)) := by omega
          have h00 : ((j : Int) + 1 == 0) = false := beq_eq_false_iff_ne.2 (by omega)
          have HKL := Lib.hid hkl
          clear hR hlast hxi hkl hk
          go_wp2
          try rw [Exit.noGoto_ret]
          go_ret3
          exact ⟨ret3 (by rw [HF.out]; rfl), HB.out⟩
end Go.Proofs.Ytljfolepmkcjlaa
