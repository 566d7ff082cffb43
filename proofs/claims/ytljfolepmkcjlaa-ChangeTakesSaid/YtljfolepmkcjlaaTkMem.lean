/-
  Memory laws for record.Take's walk: two boxed variables, and rows of numbers and of values that grow.
-/
import Derived.Test.YtljfolepmkcjlaaWTake1
import Derived.Test.YtljfolepmkcjlaaWCheck
import Derived.Test.YtljfolepmkcjlaaTk
namespace Go.Proofs.Ytljfolepmkcjlaa
open Go.RowKit Plain
set_option maxRecDepth 100000

theorem But2.refl (b c : Nat) (w : World) : But2 b c w w := ⟨rfl, rfl, rfl, Nat.le_refl _, fun _ _ _ _ => rfl⟩
theorem But2.trans {b c : Nat} {w0 w w' : World} (h : But2 b c w0 w) (k : But2 b c w w') : But2 b c w0 w' :=
  ⟨k.os.trans h.os, k.tape.trans h.tape, k.output.trans h.output, Nat.le_trans h.size k.size, fun i hi h1 h2 => (k.block i (Nat.lt_of_lt_of_le hi h.size) h1 h2).trans (h.block i hi h1 h2)⟩
theorem But2.alloc {b c : Nat} {w0 w : World} (h : But2 b c w0 w) (o : Obj) : But2 b c w0 (w.alloc o) :=
  ⟨h.os, h.tape, h.output, by have := h.size; simp; omega, fun k hk h1 h2 => (Below.heap_alloc w o k (Nat.lt_of_lt_of_le hk h.size)).trans (h.block k hk h1 h2)⟩
theorem But2.grown {b c : Nat} {w0 w w' : World} {row : Option Nat} (h : But2 b c w0 w) (g : w.grownBy w' row) (hr : ∀ k, row = some k → w0.heap.size ≤ k) : But2 b c w0 w' :=
  ⟨g.os.trans h.os, g.tape.trans h.tape, g.output.trans h.output, Nat.le_trans h.size g.size, fun k hk h1 h2 =>
    (g.block k (Nat.lt_of_lt_of_le hk h.size) (fun e => by have := hr k e.symm; omega)).trans (h.block k hk h1 h2)⟩
theorem But2.thenBelow {b c : Nat} {w0 w w' : World} (h : But2 b c w0 w) (k : Below w.heap.size w w') : But2 b c w0 w' :=
  ⟨k.os.trans h.os, k.tape.trans h.tape, k.output.trans h.output, Nat.le_trans h.size k.size, fun i hi h1 h2 => (k.block i (Nat.lt_of_lt_of_le hi h.size)).trans (h.block i hi h1 h2)⟩
theorem But2.set1 {b c : Nat} {w0 w : World} (h : But2 b c w0 w) (u : Value) : But2 b c w0 (w.setCell ⟨b, 0, none⟩ u) :=
  ⟨h.os, h.tape, h.output, by have := h.size; simp [World.setCell]; omega, fun k hk h1 h2 => (Below.heap_setCell _ _ _ _ h1).trans (h.block k hk h1 h2)⟩
theorem But2.set2 {b c : Nat} {w0 w : World} (h : But2 b c w0 w) (u : Value) : But2 b c w0 (w.setCell ⟨c, 0, none⟩ u) :=
  ⟨h.os, h.tape, h.output, by have := h.size; simp [World.setCell]; omega, fun k hk h1 h2 => (Below.heap_setCell _ _ _ _ h2).trans (h.block k hk h1 h2)⟩
theorem But2.set {b c d : Nat} {w0 w : World} (h : But2 b c w0 w) (hd : w0.heap.size ≤ d) (u : Value) : But2 b c w0 (w.setCell ⟨d, 0, none⟩ u) :=
  ⟨h.os, h.tape, h.output, by have := h.size; simp [World.setCell]; omega, fun k hk h1 h2 => (Below.heap_setCell _ _ _ _ (by show k ≠ d; omega)).trans (h.block k hk h1 h2)⟩

theorem One.grown {w w' : World} {b : Nat} {v : Value} {row : Option Nat} (h : One w b v) (g : w.grownBy w' row) (hne : ∀ k, row = some k → b ≠ k) : One w' b v :=
  h.keep (g.block b h.lt (fun e => hne b e.symm rfl))
theorem One.but2 {w w' : World} {b c d : Nat} {v : Value} (h : One w d v) (k : But2 b c w w') (h1 : d ≠ b) (h2 : d ≠ c) : One w' d v := h.keep (k.block d h.lt h1 h2)

theorem own_but2 {w w' : World} {b c base e sz n : Nat} {v : Value} {xs : List Value} (h : w.ownsRow base e sz v n xs) (k : But2 b c w w') (h1 : b < base) (h2 : c < base) : w'.ownsRow base e sz v n xs := by
  refine ⟨h.1, ?_⟩
  rcases h.2 with hn | ⟨g, cap, cur, rfl, hb, hgg, rest⟩
  · exact .inl hn
  · exact .inr ⟨g, cap, cur, rfl, hb, (k.block g (heap_lt hgg) (by omega) (by omega)).trans hgg, rest⟩
theorem own_set {w : World} {d base e sz n : Nat} {v : Value} {xs : List Value} (h : w.ownsRow base e sz v n xs) (hd : d < base) (u : Value) : (w.setCell ⟨d, 0, none⟩ u).ownsRow base e sz v n xs :=
  own_but2 h ((But2.refl d d w).set1 u) hd hd

theorem But2.cell3 (d : Nat) (w : World) (x y z : Value) : But2 d d w (((w.setCell ⟨d, 0, none⟩ x).setCell ⟨d, 1, none⟩ y).setCell ⟨d, 2, none⟩ z) :=
  ⟨rfl, rfl, rfl, by simp [World.setCell], fun k _ h1 _ => by
    rw [Below.heap_setCell _ _ _ _ h1, Below.heap_setCell _ _ _ _ h1, Below.heap_setCell _ _ _ _ h1]⟩
theorem But2.via {b c d : Nat} {w0 w w' : World} (h : But2 b c w0 w) (k : But2 d d w w') (hd : w0.heap.size ≤ d) : But2 b c w0 w' :=
  ⟨k.os.trans h.os, k.tape.trans h.tape, k.output.trans h.output, Nat.le_trans h.size k.size, fun i hi h1 h2 =>
    (k.block i (Nat.lt_of_lt_of_le hi h.size) (by omega) (by omega)).trans (h.block i hi h1 h2)⟩
theorem own_but1 {w w' : World} {d base e sz n : Nat} {v : Value} {xs : List Value} (h : w.ownsRow base e sz v n xs) (k : But2 d d w w') (hd : ∀ g, v.ownBlock = some g → g ≠ d) : w'.ownsRow base e sz v n xs := by
  refine ⟨h.1, ?_⟩
  rcases h.2 with hn | ⟨g, cap, cur, rfl, hb, hgg, rest⟩
  · exact .inl hn
  · have := hd g rfl
    exact .inr ⟨g, cap, cur, rfl, hb, (k.block g (heap_lt hgg) this this).trans hgg, rest⟩

def tagCells (l : List Nat) : List Value := l.map fun (t : Nat) => .int .u64 (t : Int)
theorem tagCells_append (a b : List Nat) : tagCells (a ++ b) = tagCells a ++ tagCells b := by simp [tagCells]
theorem tagCells_one (l : List Nat) : ∀ u ∈ tagCells l, u.oneCell' = true := by
  intro u hu
  simp only [tagCells, List.mem_map] at hu
  obtain ⟨c, _, rfl⟩ := hu
  rfl
theorem rowCells_one (l : List Val) : ∀ u ∈ rowCells l, u.oneCell' = true := by
  intro u hu
  simp only [rowCells, List.mem_flatMap, List.mem_cons, List.not_mem_nil, or_false] at hu
  obtain ⟨c, _, rfl | rfl | rfl⟩ := hu <;> rfl

theorem info_u64 : (Try.prog.info? 61).map (fun i => (i.zero, i.size, i.bytes)) = some (some (.int .u64 0), 1, 8) := by kernel_rfl
theorem info_val : (Try.prog.info? 49).map (fun i => (i.zero, i.size, i.bytes)) = some (some (.agg #[.int .u8 0, .int .i64 0, .string ⟨#[]⟩]), 3, 32) := by kernel_rfl

theorem own_lit_u64 (w : World) (base : Nat) (hb : base ≤ w.heap.size) (t : Nat) (v : Int) (hv : v = (t : Int)) :
    (w.alloc (.cells #[.int .u64 v] 61)).ownsRow base 61 1 (.slice (some ⟨w.heap.size, 0, none⟩) 1 1) 1 (tagCells [t]) := by
  subst hv
  exact World.ownsRow_lit (base := base) (e := 61) (size := 1) w #[.int .u64 (t : Int)] 1 hb (by unfold maxLen; omega) rfl
theorem Sl.lit_u64 (w : World) (t : Nat) (v : Int) (hv : v = (t : Int)) : Sl (w.alloc (.cells #[.int .u64 v] 61)) 1 (some ⟨w.heap.size, 0, none⟩) 1 (tagCells [t]) := by
  obtain ⟨A, c, e, h⟩ := Sl.own (own_lit_u64 w w.heap.size (Nat.le_refl _) t v hv)
  injection e with e1 e2 e3
  subst e1
  exact h
theorem own_lit_val (w : World) (base : Nat) (hb : base ≤ w.heap.size) (v : Val) (k n : Value) (s : Value) (h1 : k = .int .u8 v.k) (h2 : n = .int .i64 v.n) (h3 : s = .string ⟨v.s.toArray⟩) :
    (w.alloc (.cells #[k, n, s] 49)).ownsRow base 49 3 (.slice (some ⟨w.heap.size, 0, none⟩) 1 1) 1 (rowCells [v]) := by
  subst h1 h2 h3
  exact World.ownsRow_lit (base := base) (e := 49) (size := 3) w #[.int .u8 v.k, .int .i64 v.n, .string ⟨v.s.toArray⟩] 1 hb (by unfold maxLen; omega) rfl
theorem Sl.lit_val (w : World) (v : Val) (b : Nat) (k n : Value) (s : Value) (hb : b = w.heap.size) (h1 : k = .int .u8 v.k) (h2 : n = .int .i64 v.n) (h3 : s = .string ⟨v.s.toArray⟩) : Sl (w.alloc (.cells #[k, n, s] 49)) 3 (some ⟨b, 0, none⟩) 1 (rowCells [v]) := by
  subst hb
  obtain ⟨A, c, e, h⟩ := Sl.own (own_lit_val w w.heap.size (Nat.le_refl _) v k n s h1 h2 h3)
  injection e with e1 e2 e3
  subst e1
  exact h

theorem app_u64 (w : World) {ops : Array Oper} {rest : List Oper} {o : Oper} {a : Act} {Q : Exit → Act → World → Prop} (hgd : o.guard = none) (s x : Operand)
    (ho : o.op = .call { callee := .builtin .append, args := #[s, x], argTypes := #[86, 86] })
    (base : Nat) (v : Value) (n : Nat) (xs : List Nat) (hs : a.eval s = v) (hown : w.ownsRow base 61 1 v n (tagCells xs))
    (A : Option Addr) (m c : Nat) (news : List Nat) (hx : a.eval x = .slice A m c) (hr : Sl w 1 A m (tagCells news))
    (hbytes : n + m ≤ 1048576) (hbase : base ≤ w.heap.size)
    (h : ∀ v' w', w'.ownsRow base 61 1 v' (n + m) (tagCells (xs ++ news)) → w.grownBy w' v.ownBlock → (v'.ownBlock = v.ownBlock ∨ v'.ownBlock = some w.heap.size) → wpList Try.prog ops Q rest (a.put o.dst v') w') :
    wpList Try.prog ops Q (o :: rest) a w := by
  obtain ⟨i0, hi, hz0, hz1, hz2⟩ := info_parts info_u64
  refine wpList_app w hgd s x _ ho base 61 i0 (.int .u64 0) 1 8 Try.underlying86 hi hz0 hz1 hz2 rfl (by decide) v n _ hs hown A m c _ hx hr (tagCells_one _) (by unfold maxLen; omega) (by omega) hbase ?_
  intro v' w' h1 h2 h3
  rw [← tagCells_append] at h1
  exact h v' w' h1 h2 h3

theorem app_val (w : World) {ops : Array Oper} {rest : List Oper} {o : Oper} {a : Act} {Q : Exit → Act → World → Prop} (hgd : o.guard = none) (s x : Operand)
    (ho : o.op = .call { callee := .builtin .append, args := #[s, x], argTypes := #[44, 44] })
    (base : Nat) (v : Value) (n : Nat) (xs : List Val) (hs : a.eval s = v) (hown : w.ownsRow base 49 3 v n (rowCells xs))
    (A : Option Addr) (m c : Nat) (news : List Val) (hx : a.eval x = .slice A m c) (hr : Sl w 3 A m (rowCells news))
    (hbytes : n + m ≤ 1048576) (hbase : base ≤ w.heap.size)
    (h : ∀ v' w', w'.ownsRow base 49 3 v' (n + m) (rowCells (xs ++ news)) → w.grownBy w' v.ownBlock → (v'.ownBlock = v.ownBlock ∨ v'.ownBlock = some w.heap.size) → wpList Try.prog ops Q rest (a.put o.dst v') w') :
    wpList Try.prog ops Q (o :: rest) a w := by
  obtain ⟨i0, hi, hz0, hz1, hz2⟩ := info_parts info_val
  refine wpList_app w hgd s x _ ho base 49 i0 (.agg #[.int .u8 0, .int .i64 0, .string ⟨#[]⟩]) 3 32 Try.underlying44 hi hz0 hz1 hz2 rfl (by decide) v n _ hs hown A m c _ hx hr (rowCells_one _) (by unfold maxLen; omega) (by omega) hbase ?_
  intro v' w' h1 h2 h3
  rw [← rowCells_append] at h1
  exact h v' w' h1 h2 h3

/-! The sums in a long value's length, each as a run: the walk takes them whole. -/
theorem run_quo2 (t : Nat) (w : World) (h : t < 18446744073709551616) : (binOp .quo 61 (.int .u64 (t : Int)) (.int .u64 2)).run Try.prog w = .ok (.int .u64 ((t / 2 : Nat) : Int)) w := by
  simp [go_sem]
  rw [IntKind.wrap_u64]
  omega
theorem run_sub1 (t : Nat) (w : World) (h : t < 18446744073709551616) (h1 : 1 ≤ t) : (binOp .sub 61 (.int .u64 (t : Int)) (.int .u64 1)).run Try.prog w = .ok (.int .u64 ((t - 1 : Nat) : Int)) w := by
  simp [go_sem]
  rw [IntKind.wrap_u64]
  omega
theorem run_rem2 (t : Nat) (w : World) : (binOp .rem 61 (.int .u64 (t : Int)) (.int .u64 2)).run Try.prog w = .ok (.int .u64 ((t % 2 : Nat) : Int)) w := by
  simp [go_sem]
  rw [Int.tmod_eq_emod_of_nonneg (by omega)]
theorem run_min_u64 (t k : Nat) (w : World) : (Builtin.min_ #[61, 61] 61 #[.int .u64 (t : Int), .int .u64 (k : Int)]).run Try.prog w = .ok (.int .u64 ((min t k : Nat) : Int)) w := by
  simp [go_sem]
  split <;> omega
theorem run_min_i64 (t k : Nat) (w : World) : (Builtin.min_ #[3, 3] 3 #[.int .i64 (t : Int), .int .i64 (k : Int)]).run Try.prog w = .ok (.int .i64 ((min t k : Nat) : Int)) w := by
  simp [go_sem]
  split <;> omega
theorem run_u64_int (t : Nat) (w : World) (h : t < 9223372036854775808) : (convert 61 3 (.int .u64 (t : Int))).run Try.prog w = .ok (.int .i64 (t : Int)) w := by
  simp [go_sem, Try.underlying61, Try.underlying3]
  rw [IntKind.wrap_i64]
  omega
theorem run_u64_u8 (t : Nat) (w : World) (h : t < 256) : (convert 61 5 (.int .u64 (t : Int))).run Try.prog w = .ok (.int .u8 (t : Int)) w := by
  simp [go_sem, Try.underlying61, Try.underlying5]
  rw [IntKind.wrap_u8]
  omega
theorem run_add2_u8 (t : Nat) (w : World) (h : t < 200) : (binOp .add 5 (.int .u8 2) (.int .u8 (t : Int))).run Try.prog w = .ok (.int .u8 (2 + (t : Int))) w := by
  simp [go_sem]
  rw [IntKind.wrap_u8]
  omega

/-- one long value's sums, as the walk spells them: t its tag, n the bytes left -/
theorem long_sums (t n : Nat) (h : t < 18446744073709551616) (h2 : 2 ≤ t) : ∃ (m : Int) (z : Nat) (b : Bool), z = min (min (t / 2 - 1) 4000) n ∧ b = decide (min (t / 2 - 1) 4000 ≤ min n 1000) ∧
    wrap64 (if (4000 : Int) < IntKind.u64.wrap (IntKind.u64.wrap ((t : Int).tdiv 2) - 1) then 4000 else IntKind.u64.wrap (IntKind.u64.wrap ((t : Int).tdiv 2) - 1)) = m ∧
    decide (m ≤ if (1000 : Int) < (n : Int) then 1000 else (n : Int)) = b ∧
    (if (n : Int) < m then (n : Int) else m) = (z : Int) := by
  have e : IntKind.u64.wrap (IntKind.u64.wrap ((t : Int).tdiv 2) - 1) = ((t / 2 - 1 : Nat) : Int) := by
    rw [Int.tdiv_eq_ediv_of_nonneg (by omega), IntKind.wrap_u64, IntKind.wrap_u64]; omega
  refine ⟨((min (t / 2 - 1) 4000 : Nat) : Int), _, _, rfl, rfl, ?_, ?_, ?_⟩
  · rw [e]
    have : (if (4000 : Int) < ((t / 2 - 1 : Nat) : Int) then (4000 : Int) else ((t / 2 - 1 : Nat) : Int)) = ((min (t / 2 - 1) 4000 : Nat) : Int) := by split <;> omega
    rw [this, IntWalk.wrap64_in _ (by omega)]
  · rw [decide_eq_decide]
    split <;> omega
  · split <;> omega
theorem long_kind (t : Nat) : (2 + (t : Int).tmod 2) % 256 = 2 + ((t % 2 : Nat) : Int) := by
  rw [Int.tmod_eq_emod_of_nonneg (by omega)]
  omega

/-- what loop 1 of Take holds to -/
def TRel (c : Nat) (r : Bs) (bl bo : Nat) (w0 : World) (i : Nat) (v7 : Value) (wr : World) : Prop :=
  ∃ (ok : Bool) (l : Bs) (ts : List Nat), TGood c r i ok l ts ∧ One wr bl (.string ⟨l.toArray⟩) ∧ One wr bo (.bool ok) ∧ wr.ownsRow w0.heap.size 61 1 v7 i (tagCells ts) ∧ But2 bl bo w0 wr

/-- what loop 2 of Take holds to -/
def BRel (ts : List Nat) (R : Option (List Val × Bs)) (bl bo : Nat) (w0 : World) (k : Nat) (v8 : Value) (wr : World) : Prop :=
  ∃ (ok : Bool) (l : Bs) (row : List Val), BGood ts R k ok l row ∧ l.length ≤ 4000 ∧ One wr bl (.string ⟨l.toArray⟩) ∧ One wr bo (.bool ok) ∧ wr.ownsRow w0.heap.size 49 3 v8 k (rowCells row) ∧ But2 bl bo w0 wr
end Go.Proofs.Ytljfolepmkcjlaa
