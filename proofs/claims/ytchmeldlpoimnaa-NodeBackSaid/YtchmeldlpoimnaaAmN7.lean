/-
  The plain laws of a page's bytes; the table for the laws of pages.
-/
import Derived.Test.YtchmeldlpoimnaaAmN6
namespace Go.Proofs.Ytchmeldlpoimnaa
open Go.RowKit Am IntWalk
set_option maxRecDepth 100000
set_option linter.unusedSimpArgs false

theorem num2_len (x : Int) : (num2 x).length = 2 := rfl
theorem num4_len (x : Int) : (num4 x).length = 4 := rfl
theorem cellBs_len (k : Int) (c : Cel) : (cellBs k c).length = 1 + c.key.length + (if k == 1 then 2 + c.loc.length else 0) + (if decide (0 < c.page) then 4 else 0) := by
  unfold cellBs
  simp only [List.length_append, List.length_cons, List.length_nil]
  split <;> split <;> simp [num2_len, num4_len] <;> omega
theorem flat_le {k : Int} {m : Nat} : ∀ {l : List Cel}, (∀ c ∈ l, (cellBs k c).length ≤ m) → (l.flatMap (cellBs k)).length ≤ l.length * m
  | [], _ => by simp
  | c :: r, h => by
    have h1 := h c (by simp)
    have h2 := flat_le (l := r) fun x hx => h x (by simp [hx])
    simp only [List.flatMap_cons, List.length_append, List.length_cons, Nat.succ_mul]
    omega
theorem head_len (n : Nod) : (headBs n).length = 3 + (if n.kind == 1 then 0 else 4) := by
  unfold headBs
  simp only [List.length_append, List.length_cons, List.length_nil, num2_len]
  split <;> simp [num4_len]
theorem all_len (n : Nod) : (byAll n).length = (headBs n).length + (n.cells.flatMap (cellBs n.kind)).length + n.data.length := by
  simp only [byAll, byU, List.take_length, List.length_append]
theorem nok_of {n : Nod} (hk : 0 ≤ n.kind ∧ n.kind < 256) (h : greatB n = false) : Nok n := by
  simp only [greatB, Bool.or_eq_false_iff, decide_eq_false_iff_not, Nat.not_lt] at h
  obtain ⟨⟨h1, h2⟩, h3⟩ := h
  refine ⟨hk, by omega, ?_⟩
  rw [all_len, head_len]
  have := flat_le (k := n.kind) (m := 2055) (l := n.cells) fun c hc => by
    have := List.any_eq_false.1 h3 c hc
    simp only [bigC, Bool.or_eq_true, decide_eq_true_eq, not_or, Nat.not_lt] at this
    rw [cellBs_len]; split <;> split <;> omega
  have h4 : n.cells.length * 2055 ≤ 400 * 2055 := Nat.mul_le_mul_right _ h1
  split <;> omega

theorem may_cell {n : Nod} (h : mayB n = true) : (n.kind = 1 ∨ n.kind = 2 → ∀ c ∈ n.cells, cellB n.kind c = true) := by
  intro hk c hc
  simp only [mayB, Bool.and_eq_true] at h
  have h2 := h.2
  rw [if_pos (by rcases hk with e | e <;> simp [e])] at h2
  simp only [cellsB, List.all_eq_true, List.mem_range] at h2
  obtain ⟨i, hi, rfl⟩ := List.mem_iff_getElem.1 hc
  have := h2 i hi
  simp only [badAt, Bool.not_or, Bool.and_eq_true, Bool.not_not] at this
  simpa [ndAt, hi] using this.1
theorem may_kind {n : Nod} (h : mayB n = true) : n.kind = 1 ∧ n.data = [] ∨ n.kind = 2 ∧ n.data = [] ∧ n.cells ≠ [] ∨ n.kind = 3 ∧ n.cells = [] ∧ n.data.length ≤ 505 ∨ n.kind = 4 ∧ n.cells = [] ∧ n.data = [] := by
  simp only [mayB, Bool.and_eq_true] at h
  have h1 := h.1
  unfold headB at h1
  split at h1
  · rename_i e; simp at e h1; exact .inl ⟨e, h1.2⟩
  · split at h1
    · rename_i e; simp at e h1; exact .inr (.inl ⟨e, h1.1.2, h1.2⟩)
    · split at h1
      · rename_i e; simp at e h1; exact .inr (.inr (.inl ⟨e, h1.2, h1.1.2⟩))
      · split at h1
        · rename_i e; simp at e h1; exact .inr (.inr (.inr ⟨e, h1.2, h1.1.2⟩))
        · cases h1
/-- What a cell of a leaf asks for. -/
theorem leaf_len {c : Cel} (h : cellB 1 c = true) : (cellBs 1 c).length = 3 + c.key.length + (min c.size 100).toNat + (if 100 < c.size then 4 else 0) ∧ c.key.length ≤ 100 ∧ 0 ≤ c.size := by
  rw [cellBs_len]
  by_cases h6 : 100 < c.size
  · simp [cellB, pageB, h6] at h
    have : 0 < c.page := by omega
    simp [h6, this]
    omega
  · simp [cellB, pageB, h6] at h
    have : ¬ (0 < c.page) := by omega
    simp [h6, this]
    omega
theorem inner_len {c : Cel} (h : cellB 2 c = true) : (cellBs 2 c).length = 5 + c.key.length ∧ c.key.length ≤ 100 := by
  rw [cellBs_len]
  unfold cellB pageB at h
  split at h
  · cases h
  · rename_i h1
    simp at h1 h
    have : 0 < c.page := by omega
    simp [this]
    omega
theorem room {n : Nod} (h : mayB n = true) (hc : (n.kind = 1 ∧ n.cells.length ≤ 2) ∨ (n.kind = 2 ∧ n.cells.length ≤ 4) ∨ 2 < n.kind) : (byAll n).length ≤ 512 := by
  rw [all_len, head_len]
  have hcl := may_cell h
  rcases may_kind h with ⟨hk, hd⟩ | ⟨hk, hd, _⟩ | ⟨hk, hcs, hd⟩ | ⟨hk, hcs, hd⟩
  · have h1 : n.cells.length ≤ 2 := by omega
    have := flat_le (k := n.kind) (m := 207) (l := n.cells) fun c hc => by
      have := hcl (.inl hk) c hc
      rw [hk] at this ⊢
      have := leaf_len this
      split at this <;> omega
    have h4 : n.cells.length * 207 ≤ 2 * 207 := Nat.mul_le_mul_right _ h1
    simp [hk, hd] at this ⊢
    omega
  · have h1 : n.cells.length ≤ 4 := by omega
    have := flat_le (k := n.kind) (m := 105) (l := n.cells) fun c hc => by
      have := hcl (.inr hk) c hc
      rw [hk] at this ⊢
      have := inner_len this
      omega
    have h4 : n.cells.length * 105 ≤ 4 * 105 := Nat.mul_le_mul_right _ h1
    simp [hk, hd] at this ⊢
    omega
  · simp [hk, hcs]; omega
  · simp [hk, hcs, hd]
theorem room_law (n : Nod) (hc : (n.kind = 1 ∧ n.cells.length ≤ 2) ∨ (n.kind = 2 ∧ n.cells.length ≤ 4) ∨ 2 < n.kind) : putE n = 0 ∨ (putE n = 2 ∧ sizeN n = 0) := by
  unfold putE sizeN
  cases hm : mayB n with
  | false => simp
  | true => have := room hm hc; simp [this]
theorem full_law (n : Nod) : putE n = 8 ↔ 512 < sizeN n := by
  unfold putE sizeN
  cases hm : mayB n with
  | false => simp
  | true => simp; omega

theorem works_c : C Try.prog 27 [] [] (fun r o => r = .d (.bool true) ∧ o = []) :=
  of_isTrue (lay_ok tb tb_ok brf 6000 1200 12) (by kernel_rfl : isTrue (layer Try.prog (konOf tb) brf cok 6000 1200 12 27 [] []) = true)
def nkCs (n : Nod) : List Bool := [decide (0 ≤ n.kind ∧ n.kind < 256), decide (n.cells.length ≤ 500000), decide ((byAll n).length ≤ 2000000)]
theorem nkCs_ok {n : Nod} (h : ∀ b ∈ nkCs n, b = true) : Nok n := ⟨of_decide_eq_true (h _ (.head _)), of_decide_eq_true (h _ (.tail _ (.head _))), of_decide_eq_true (h _ (.tail _ (.tail _ (.head _))))⟩
def putEn : Ent := fun a o => match a, o with
  | [.d x], [] => some (.tup [.d (.str (putS (toNod x))), .d (.int .i64 (putE (toNod x)))], [], isNod x :: nkCs (toNod x))
  | _, _ => none
theorem put_ent : EntOk Try.prog 24 putEn := by
  intro a o r o' c hg hc
  unfold putEn at hg
  split at hg
  · rename_i x
    simp only [Option.some.injEq, Prod.mk.injEq] at hg
    obtain ⟨rfl, rfl, rfl⟩ := hg
    have h0 : isNod x = true := hc _ (by simp)
    have := put_c (toNod x) (nkCs_ok fun b hb => hc b (by simp [hb]))
    rw [← isNod_spec h0] at this
    exact this
  · cases hg
noncomputable def tnE : List (Nat × Ent) :=
  (27, e0 (some (.bool true, []))) :: (30, e1 fun x => some (.bool (greatB (toNod x)), isNod x :: [])) ::
  (28, e1 fun x => some (.int .i64 (sizeN (toNod x)), isNod x :: nkCs (toNod x))) :: (24, putEn) :: tnD
theorem tnE_ok : EntsOk Try.prog tnE :=
  .cons (e0_ok fun y c h _ => by simp only [Option.some.injEq, Prod.mk.injEq] at h; obtain ⟨rfl, rfl⟩ := h; exact works_c)
    (.cons (nod_ent (g := fun n => .bool (greatB n)) (cs := fun _ => []) fun n _ => great_c n)
      (.cons (nod_ent (g := fun n => .int .i64 (sizeN n)) (cs := nkCs) fun n h => size_c n (nkCs_ok h)) (.cons put_ent tnD_ok)))
end Go.Proofs.Ytchmeldlpoimnaa
