/-
  The walks of value.bare, value.Check, counterfoilref07.Check: what they answer at any value.
-/
import Derived.Test.YtljfolepmkcjlaaChecked
import Derived.Test.YtljfolepmkcjlaaRec
import Derived.WalkKit
import Derived.Below
import Derived.BigQuiet
import Derived.Deep.QuietTactic
import Derived.Deep.RegionWith
import Derived.Laws.ResultCell
import Derived.Lib.Hide
import Derived.WalkSmall
namespace Go.Proofs.Ytljfolepmkcjlaa
open Go.RowKit Plain

/-- a value as the program has it -/
def vOf (v : Val) : Value := .agg #[.int .u8 v.k, .int .i64 v.n, .string ⟨v.s.toArray⟩]

def bareV (v : Val) : Val :=
  if v.k = 1 then ⟨v.k, v.n, []⟩ else if v.k = 2 ∨ v.k = 3 then ⟨v.k, 0, v.s⟩ else ⟨v.k, 0, []⟩

set_option maxHeartbeats 400000 in
theorem bare_any (k n : Int) (s : Bs) (w : World) :
    Calls Try.prog 102 #[.agg #[.int .u8 k, .int .i64 n, .string ⟨s.toArray⟩]] w fun e w' => e = .returned (vOf (bareV ⟨k, n, s⟩)) ∧ Below w.heap.size w w' := by
  by_cases h1 : k = 1
  · subst h1
    go_enter Try.func102, Try.ntmps102
    go_wp2
    exact bodyPost_ret (v := .agg #[.int .u8 1, .int .i64 n, .string ⟨#[]⟩]) (by simp [results, Try.results102, go_sem]) rfl ⟨rfl, ((((Below.refl _ _).alloc (Nat.le_refl _) _).alloc (by simp) _))⟩
  · by_cases h2 : k = 2
    · subst h2
      go_enter Try.func102, Try.ntmps102
      go_wp2
      exact bodyPost_ret (v := .agg #[.int .u8 2, .int .i64 0, .string ⟨s.toArray⟩]) (by simp [results, Try.results102, go_sem]) rfl ⟨rfl, ((((Below.refl _ _).alloc (Nat.le_refl _) _).alloc (by simp) _))⟩
    · by_cases h3 : k = 3
      · subst h3
        go_enter Try.func102, Try.ntmps102
        go_wp2
        exact bodyPost_ret (v := .agg #[.int .u8 3, .int .i64 0, .string ⟨s.toArray⟩]) (by simp [results, Try.results102, go_sem]) rfl ⟨rfl, ((((Below.refl _ _).alloc (Nat.le_refl _) _).alloc (by simp) _))⟩
      · have e1 : (k == 1) = false := by simpa using h1
        have e2 : (k == 2) = false := by simpa using h2
        have e3 : (k == 3) = false := by simpa using h3
        go_enter Try.func102, Try.ntmps102
        go_wp2
        exact bodyPost_ret (v := .agg #[.int .u8 k, .int .i64 0, .string ⟨#[]⟩]) (by simp [results, Try.results102, go_sem]) rfl ⟨by simp [bareV, vOf, h1, h2, h3], ((((Below.refl _ _).alloc (Nat.le_refl _) _).alloc (by simp) _))⟩

theorem bareV_eq (v : Val) : (v.k > 3 ∨ v ≠ bareV v) ↔ (v.k > 3 ∨ (v.k ≠ 1 ∧ v.n ≠ 0) ∨ (v.k < 2 ∧ v.s ≠ [])) := by
  obtain ⟨k, n, s⟩ := v
  unfold bareV
  simp only
  split
  · rename_i h; subst h; simp
  · rename_i h1
    split
    · rename_i h2
      simp only [ne_eq, Val.mk.injEq, true_and, and_true]
      constructor
      · rintro (h | h)
        · exact .inl h
        · exact .inr (.inl ⟨h1, h⟩)
      · rintro (h | h | h)
        · exact .inl h
        · exact .inr h.2
        · omega
    · rename_i h2
      simp only [ne_eq, Val.mk.injEq, true_and]
      by_cases h3 : k > 3
      · simp [h3]
      · by_cases h4 : n = 0
        · subst h4
          by_cases h5 : s = []
          · simp [h5]
          · simp only [h5, and_false, not_false_eq_true, or_true, true_iff]
            by_cases h6 : k < 2
            · simp [h6]
            · omega
        · simp [h1, h4]

/-! ### two values held against each other -/
theorem valT_st : Try.prog.stoodInHeld 49 = false := by kernel_rfl
theorem valT_eg : Try.prog.eqGuardType Try.prog.depth 49 = false := by kernel_rfl
theorem valT_un : Try.prog.underlying 49 = some (.struct (Try.prog.fieldsOf 49)) := by kernel_rfl
theorem valT_fs : Try.prog.fieldsOf 49 = #[{ name := "Kind", type := 5, offset := 0, embedded := false, tag := "", pkgPath := "", byteOffset := 0 }, { name := "N", type := 2, offset := 1, embedded := false, tag := "", pkgPath := "", byteOffset := 8 }, { name := "S", type := 9, offset := 2, embedded := false, tag := "", pkgPath := "", byteOffset := 16 }] := by kernel_rfl
theorem run_eqv (w : World) (v v' : Val) : (Op.equalIn 10000 49 (vOf v) (vOf v')).run Try.prog w = .ok (decide (v = v')) w := by
  unfold vOf
  rw [show (10000 : Nat) = 9999 + 1 from rfl, run_equalIn_agg w 9999 _ _ _ valT_un valT_st, valT_fs]
  obtain ⟨k, n, s⟩ := v
  obtain ⟨k', n', s'⟩ := v'
  simp [Op.eqFields, part, go_sem]
  by_cases h1 : k = k' <;> by_cases h2 : n = n' <;> by_cases h3 : s = s' <;> simp [h1, h2, h3]

theorem run_neqv (w : World) (v v' : Val) : (binOp .neq 49 (vOf v) (vOf v')).run Try.prog w = .ok (.bool (decide (v ≠ v'))) w := by
  have h := run_eqv w v v'
  unfold vOf at *
  rw [run_neq_struct, h]
  simp [Result.andThen]
theorem run_eqlv (w : World) (v v' : Val) : (binOp .eql 49 (vOf v) (vOf v')).run Try.prog w = .ok (.bool (decide (v = v'))) w := by
  have h := run_eqv w v v'
  unfold vOf at *
  rw [run_eql_struct, h]
  simp [Result.andThen]
theorem run_egv (w : World) (op : BinOp) (x y : Operand) (v v' : Val) : (eqGuard op 49 x y (vOf v) (vOf v')).run Try.prog w = .ok () w :=
  run_eqGuard_agg w op _ x y _ _ valT_eg

theorem bcell {W w1 : World} (hb : Below W.heap.size W w1) : (∀ b o, b < W.heap.size → w1.cell? ⟨b, o, none⟩ = W.cell? ⟨b, o, none⟩) ∧ (∀ b o, b < W.heap.size → w1.frozen? ⟨b, o, none⟩ = W.frozen? ⟨b, o, none⟩) :=
  ⟨fun b o h => hb.cell (p := ⟨b, o, none⟩) h, fun b o h => hb.frozen (p := ⟨b, o, none⟩) h⟩

set_option maxHeartbeats 400000 in
theorem vcheck_any (k n : Int) (s : Bs) (w : World) :
    Calls Try.prog 90 #[.agg #[.int .u8 k, .int .i64 n, .string ⟨s.toArray⟩]] w fun e w' => e = .returned (.int .i64 (chk ⟨k, n, s⟩)) ∧ Below w.heap.size w w' := by
  have hq := bareV_eq ⟨k, n, s⟩
  by_cases h1 : 3 < k
  · clear hq
    have hd : decide (3 < k) = true := by simpa using h1
    go_enter Try.func90, Try.ntmps90
    go_wp2_with fail
    go_quiet (fail)
    go_wp2
    go_ret
    exact ⟨by simp [chk, h1], below_drewN ((Below.refl _ w).alloc (Nat.le_refl _) _) _⟩
  · have hd : decide (3 < k) = false := by simpa using h1
    have hn : ∀ w' : World, (binOp .neq 49 (.agg #[.int .u8 k, .int .i64 n, .string ⟨s.toArray⟩]) (vOf (bareV ⟨k, n, s⟩))).run Try.prog w' = .ok (.bool (decide ((⟨k, n, s⟩ : Val) ≠ bareV ⟨k, n, s⟩))) w' := fun w' => run_neqv w' ⟨k, n, s⟩ _
    have hg : ∀ (w' : World) (x y : Operand), (eqGuard .neq 49 x y (.agg #[.int .u8 k, .int .i64 n, .string ⟨s.toArray⟩]) (vOf (bareV ⟨k, n, s⟩))).run Try.prog w' = .ok () w' := fun w' x y => run_egv w' _ x y ⟨k, n, s⟩ _
    have hc := Lib.hid (fun w' => bare_any k n s w')
    have HQ := Lib.hid hq
    clear hq
    generalize vOf (bareV ⟨k, n, s⟩) = bv at *
    by_cases hb : (⟨k, n, s⟩ : Val) = bareV ⟨k, n, s⟩
    · have hb' : decide ((⟨k, n, s⟩ : Val) ≠ bareV ⟨k, n, s⟩) = false := by simpa using hb
      rw [hb'] at hn
      have hfin : chk ⟨k, n, s⟩ = if s.length > 1000 then 3 else 0 := by
        unfold chk
        rw [if_neg]
        intro hx
        rcases HQ.out.2 hx with h | h
        · exact h1 h
        · exact h hb
      have HF := Lib.hid hfin
      clear hb hb' hfin HQ
      go_enter Try.func90, Try.ntmps90
      go_wp2_with fail
      go_region_with (go_at_call 102; refine (hc.out _).mono ?_; rintro e w' ⟨rfl, hb⟩; obtain ⟨hce, hfr⟩ := bcell hb)
      all_goals
        go_wp2
        all_goals
          go_ret
          refine ⟨by first | (rw [HF.out, if_pos (by omega)]; rfl) | (rw [HF.out, if_neg (by omega)]; rfl), ((Below.refl _ w).alloc (Nat.le_refl _) _).drew.trans (hb.mono (B' := w.heap.size) (by simp))⟩
    · have hb' : decide ((⟨k, n, s⟩ : Val) ≠ bareV ⟨k, n, s⟩) = true := by simpa using hb
      rw [hb'] at hn
      have hfin : chk ⟨k, n, s⟩ = 2 := by
        unfold chk
        rw [if_pos (HQ.out.1 (.inr hb))]
      have HF := Lib.hid hfin
      clear hb hb' hfin HQ
      go_enter Try.func90, Try.ntmps90
      go_wp2_with fail
      go_region_with (go_at_call 102; refine (hc.out _).mono ?_; rintro e w' ⟨rfl, hb⟩; obtain ⟨hce, hfr⟩ := bcell hb)
      all_goals
        go_wp2
        all_goals
          go_ret
          exact ⟨by rw [HF.out]; rfl, ((Below.refl _ w).alloc (Nat.le_refl _) _).drew.trans (hb.mono (B' := w.heap.size) (by simp))⟩

theorem chk_two {k n : Int} {s : Bs} (h : k > 3 ∨ (k ≠ 1 ∧ n ≠ 0) ∨ (k < 2 ∧ s ≠ [])) : (2 : Int) = chk ⟨k, n, s⟩ := by unfold chk; rw [if_pos h]
theorem chk_else {k n : Int} {s : Bs} (h1 : k ≤ 3) (h2 : k = 1 ∨ n = 0) (h3 : 2 ≤ k ∨ s = []) : chk ⟨k, n, s⟩ = if 1000 < s.length then 3 else 0 := by
  unfold chk
  rw [if_neg]
  rintro (h | h | h)
  · exact absurd h1 (by simp only at h; omega)
  · rcases h2 with h2 | h2
    · exact h.1 h2
    · exact h.2 h2
  · rcases h3 with h3 | h3
    · have := h.1; simp only at this; omega
    · exact h.2 h3

theorem ret_int {k : IntKind} {a b : Int} (h : a = b) : Ending.returned (.int k a) = .returned (.int k b) := by rw [h]

set_option maxHeartbeats 400000 in
theorem rcheck_any (k n : Int) (s : Bs) (w : World) :
    Calls Try.prog 94 #[.agg #[.int .u8 k, .int .i64 n, .string ⟨s.toArray⟩]] w fun e w' => e = .returned (.int .i64 (chk ⟨k, n, s⟩)) ∧ Below w.heap.size w w' := by
  go_enter Try.func94, Try.ntmps94
  go_wp2
  all_goals
    go_ret
    refine ⟨ret_int ?_, (Below.refl _ w).alloc (Nat.le_refl _) _⟩
    simp only [chk, Bool.not_eq_true', List.isEmpty_iff, Bool.not_eq_false'] at *
    repeat' split
    all_goals first | rfl | (exfalso; simp_all; done) | (exfalso; simp_all; omega)
end Go.Proofs.Ytljfolepmkcjlaa
