/-
  Texts that the claim leans on, one behind the other, part 1.
-/
import Derived.Test.YtljfolepmkcjlaaChecked
import Derived.WalkKit
import Derived.Below
import Derived.Maps.AppendAt
import Derived.OwnWalk
import Derived.Deep.OwnRows
import Derived.Deep.AppendLies
import Derived.WalkSmall
import Derived.Lib.Hide
import Derived.Lib.UnsafeStr
import Derived.Laws.IdiomStrings
import Derived.Laws.Rows
import Derived.KernelRfl
import Derived.BigQuiet
import Derived.Deep.QuietTactic
import Derived.Deep.RegionWith
import Derived.Laws.ResultCell
import Derived.Outline
import Derived.Lib.Builder
import Derived.Lib.AppendStr
import Derived.RegionTactic

/-
  Small laws on memory: a slice that holds cells (nil let in), append onto a row of the call's own.
-/
namespace Go.Proofs.Ytljfolepmkcjlaa
open Go.RowKit

theorem add_plain (b off j : Nat) : (⟨b, off, none⟩ : Addr).add j = ⟨b, off + j, none⟩ := by
  unfold Addr.add; split <;> simp_all

/-- The slice '.slice A n _' holds the cells xs, sz cells an element. -/
def Sl (w : World) (sz : Nat) (A : Option Addr) (n : Nat) (xs : List Value) : Prop :=
  xs.length = n * sz ∧ (0 < n * sz → ∃ b off, A = some ⟨b, off, none⟩ ∧ ∀ j u, xs[j]? = some u → w.cell? ⟨b, off + j, none⟩ = some u)

theorem Sl.nil (w : World) (sz : Nat) (A : Option Addr) : Sl w sz A 0 [] := ⟨by simp, fun h => absurd h (by simp)⟩

theorem Sl.keep {w w' : World} {sz n : Nat} {A : Option Addr} {xs : List Value} (h : Sl w sz A n xs) (hk : ∀ b o, b < w.heap.size → w'.cell? ⟨b, o, none⟩ = w.cell? ⟨b, o, none⟩) : Sl w' sz A n xs := by
  refine ⟨h.1, fun hn => ?_⟩
  obtain ⟨b, off, e, hc⟩ := h.2 hn
  refine ⟨b, off, e, fun j u hu => ?_⟩
  have := hc j u hu
  rw [hk b _ (World.block_lt_of_cell? w _ this)]
  exact this
theorem Sl.below {w w' : World} {sz n B : Nat} {A : Option Addr} {xs : List Value} (h : Sl w sz A n xs) (hb : Below B w w') (hB : w.heap.size ≤ B) : Sl w' sz A n xs :=
  h.keep fun b o hlt => hb.cell (p := ⟨b, o, none⟩) (by exact Nat.lt_of_lt_of_le hlt hB)

theorem Sl.alloc {w : World} {sz n : Nat} {A : Option Addr} {xs : List Value} (h : Sl w sz A n xs) (o : Obj) : Sl (w.alloc o) sz A n xs := h.keep fun b o' hb => World.cell?_alloc_lt w o ⟨b, o', none⟩ hb
theorem Sl.drew {w : World} {sz n : Nat} {A : Option Addr} {xs : List Value} (h : Sl w sz A n xs) : Sl w.drew sz A n xs := h
theorem Sl.own {w : World} {base e sz n : Nat} {v : Value} {xs : List Value} (h : w.ownsRow base e sz v n xs) : ∃ A c, v = .slice A n c ∧ Sl w sz A n xs := by
  rcases h.2 with ⟨rfl, rfl⟩ | ⟨g, cap, cur, rfl, _⟩
  · have hx : xs = [] := List.eq_nil_of_length_eq_zero (by simpa using h.1)
    subst hx
    exact ⟨none, 0, rfl, Sl.nil _ _ _⟩
  · exact ⟨_, _, rfl, h.1, fun _ => ⟨g, 0, rfl, fun j u hu => by
      have := h.cells (g := g) rfl j u hu
      rwa [add_plain] at this⟩⟩

theorem own_form {w : World} {base e sz n : Nat} {v : Value} {xs : List Value} (h : w.ownsRow base e sz v n xs) (hn : 0 < n) : ∃ g cap, v = .slice (some ⟨g, 0, none⟩) n cap ∧ base ≤ g ∧ n ≤ cap ∧ g < w.heap.size := by
  rcases h.2 with ⟨rfl, rfl⟩ | ⟨g, cap, cur, rfl, hb, hg, hnc, _⟩
  · omega
  · refine ⟨g, cap, rfl, hb, hnc, ?_⟩
    rcases Nat.lt_or_ge g w.heap.size with hl | hl
    · exact hl
    · rw [Array.getElem?_eq_none hl] at hg; cases hg

section
variable {P : Program} (w : World)

theorem run_app (base : Nat) (t ty e : TypeId) (i : TypeInfo) (z : Value) (size bytes : Nat) (ht : P.underlying t = some (.slice e)) (hi : P.info? e = some i) (hz : i.zero = some z)
    (hsize : i.size = size) (hby : i.bytes = bytes) (hzs : z.cells.size = size) (hsz : 0 < size)
    (v : Value) (n : Nat) (xs : List Value) (hown : w.ownsRow base e size v n xs)
    (A : Option Addr) (m c : Nat) (news : List Value) (hs : Sl w size A m news) (h1 : ∀ u ∈ news, u.oneCell' = true)
    (h63 : n + m ≤ maxLen) (hbytes : (n + m) * bytes ≤ 140737488355328) (hbase : base ≤ w.heap.size) :
    ∃ v' w', (Builtin.append_ #[t, t] ty #[v, .slice A m c]).run P w = .ok v' w' ∧ w'.ownsRow base e size v' (n + m) (xs ++ news) ∧ w.grownBy w' v.ownBlock ∧
      (v'.ownBlock = v.ownBlock ∨ v'.ownBlock = some w.heap.size) := by
  by_cases hm : m = 0
  · subst hm
    have hn : news = [] := List.eq_nil_of_length_eq_zero (by simpa using hs.1)
    subst hn
    refine ⟨v, w, ?_, by simpa using hown, World.grownBy.refl w _, .inl rfl⟩
    rcases hown.2 with ⟨rfl, rfl⟩ | ⟨g, cap, cur, rfl, _, _, hnc, _⟩
    · cases A <;> simp [Builtin.append_, run_underlying ht, sizeOf, typeInfo, hi, Builtin.lenOf, Builtin.firstCells, loadCells, loadCellsFrom]
    · cases A <;> simp [Builtin.append_, run_underlying ht, sizeOf, typeInfo, hi, Builtin.lenOf, Builtin.firstCells, hnc, storeCells, loadCells, loadCellsFrom]
  · obtain ⟨b, off, rfl, hc⟩ := hs.2 (Nat.mul_pos (by omega) hsz)
    obtain ⟨v', w', hrun, h2, h3, _, h5⟩ := run_append_own_at (P := P) w base t ty e i z size bytes ht hi hz hsize hby hzs hsz v n xs hown ⟨b, off, none⟩ m c news hs.1
      (fun j u hu => by rw [add_plain]; exact hc j u hu) h1 h63 hbytes hbase
    exact ⟨v', w', hrun, h2, h3, h5⟩

theorem wpList_app {ops : Array Oper} {rest : List Oper} {o : Oper} {a : Act} {Q : Exit → Act → World → Prop} (hgd : o.guard = none) (s x : Operand) (t : TypeId)
    (ho : o.op = .call { callee := .builtin .append, args := #[s, x], argTypes := #[t, t] })
    (base : Nat) (e : TypeId) (i : TypeInfo) (z : Value) (size bytes : Nat) (ht : P.underlying t = some (.slice e)) (hi : P.info? e = some i) (hz : i.zero = some z)
    (hsize : i.size = size) (hby : i.bytes = bytes) (hzs : z.cells.size = size) (hsz : 0 < size)
    (v : Value) (n : Nat) (xs : List Value) (hs : a.eval s = v) (hown : w.ownsRow base e size v n xs)
    (A : Option Addr) (m c : Nat) (news : List Value) (hx : a.eval x = .slice A m c) (hr : Sl w size A m news) (h1 : ∀ u ∈ news, u.oneCell' = true)
    (h63 : n + m ≤ maxLen) (hbytes : (n + m) * bytes ≤ 140737488355328) (hbase : base ≤ w.heap.size)
    (h : ∀ v' w', w'.ownsRow base e size v' (n + m) (xs ++ news) → w.grownBy w' v.ownBlock → (v'.ownBlock = v.ownBlock ∨ v'.ownBlock = some w.heap.size) → wpList P ops Q rest (a.put o.dst v') w') : wpList P ops Q (o :: rest) a w := by
  refine wpList_plain hgd fun K hK => ?_
  obtain ⟨v', w', hrun, h2, h3, h4⟩ := run_app (P := P) w base t o.type e i z size bytes ht hi hz hsize hby hzs hsz v n xs hown A m c news hr h1 h63 hbytes hbase
  unfold Oper.wp execOp
  simp only [ho, resolve, invoke, builtin, Sem.run_bind, Sem.run_pure, Result.andThen_ok, List.map_toArray, List.map_cons, List.map_nil, hs, hx, hrun]
  exact hK _ _ (h v' w' h2 h3 h4)
end

/-! The row of the table of types for uint8, and what a list of bytes lies as. -/
theorem info_u8 : (Try.prog.info? 5).map (fun i => (i.zero, i.size, i.bytes)) = some (some (.int .u8 0), 1, 1) := by kernel_rfl

theorem cells_bytes_one (l : List UInt8) : ∀ u ∈ Lib.byteCells l, u.oneCell' = true := by
  intro u hu
  simp only [Lib.byteCells, List.mem_map] at hu
  obtain ⟨c, _, rfl⟩ := hu
  rfl
theorem cells_bytes_append (a b : List UInt8) : Lib.byteCells (a ++ b) = Lib.byteCells a ++ Lib.byteCells b := by simp [Lib.byteCells]
/-- the length of a slice value -/
def lenOf : Value → Nat | .slice _ l _ => l | _ => 0

/-- a slice literal of one byte -/
theorem own_lit_u8 (w : World) (base : Nat) (hb : base ≤ w.heap.size) (x : UInt8) (v : Int) (hv : v = (x.toNat : Int)) :
    (w.alloc (.cells #[.int .u8 v] 5)).ownsRow base 5 1 (.slice (some ⟨w.heap.size, 0, none⟩) 1 1) 1 (Lib.byteCells [x]) := by
  subst hv
  exact World.ownsRow_lit (base := base) (e := 5) (size := 1) w #[.int .u8 (x.toNat : Int)] 1 hb (by unfold maxLen; omega) rfl

/-- a slice literal of one byte, as a source -/
theorem Sl.lit_u8 (w : World) (x : UInt8) (v : Int) (hv : v = (x.toNat : Int)) : Sl (w.alloc (.cells #[.int .u8 v] 5)) 1 (some ⟨w.heap.size, 0, none⟩) 1 (Lib.byteCells [x]) := by
  obtain ⟨A, c, e, h⟩ := Sl.own (own_lit_u8 w w.heap.size (Nat.le_refl _) x v hv)
  injection e with e1 e2 e3
  subst e1
  exact h

theorem extract_bytes (l : List UInt8) (a b : Nat) : (⟨l.toArray⟩ : ByteArray).extract a b = ⟨((l.take b).drop a).toArray⟩ := by
  apply ByteArray.ext
  rw [ByteArray.data_extract]
  simp [List.drop_take]

theorem run_index_bytes (w : World) (l : List UInt8) (k : Nat) (hk : k < l.length) : (Instr.index 9 (.string ⟨l.toArray⟩) (.int .i64 (k : Int))).run Try.prog w = .ok (.int .u8 (l[k].toNat : Int)) w := by
  have e : (⟨l.toArray⟩ : ByteArray)[k]? = some l[k] := by
    rw [getElem?_pos (⟨l.toArray⟩ : ByteArray) k hk]; rfl
  simp [Instr.index, run_underlying Try.underlying9, asIntOf, e]

theorem bytes_beq (a b : ByteArray) : (a.toList == b.toList) = decide (a.data.toList = b.data.toList) := by
  rw [ByteArray.toList_eq, ByteArray.toList_eq]
  rw [Bool.eq_iff_iff]
  simp
/-- []byte(s) -/
theorem run_bytes (w : World) (l : List UInt8) : ∃ cap W1, (convert 9 70 (.string ⟨l.toArray⟩)).run Try.prog w = .ok (.slice (some ⟨w.heap.size, 0, none⟩) l.length cap) W1 ∧ Below w.heap.size w W1 ∧
    (∀ k (hk : k < l.length), W1.cell? ⟨w.heap.size, k, none⟩ = some (.int .u8 (l[k].toNat : Int))) ∧ W1.heap.size = w.heap.size + 1 := by
  have h := run_bytes_of_string (P := Try.prog) w 9 70 5 ⟨l.toArray⟩ Try.underlying9 Try.underlying70 Try.underlying5
  have e : (⟨l.toArray⟩ : ByteArray).size = l.length := rfl
  rw [e] at h
  refine ⟨_, _, h, (Below.refl _ w).drew.alloc (Nat.le_refl _) _, ?_, by simp⟩
  intro k hk
  have := cell_of_row (w.drew.alloc (.cells (bytesRow ⟨l.toArray⟩ (grownCap w l.length 0 5)) 5 ((bytesRow ⟨l.toArray⟩ (grownCap w l.length 0 5)).size, (bytesRow ⟨l.toArray⟩ (grownCap w l.length 0 5)).size + 1))) w.heap.size k _ _ _ (heap_alloc_new w.drew _)
  rw [this]
  unfold bytesRow
  rw [Array.getElem?_append_left (by simpa using hk)]
  simp [hk]

theorem app_u8 (w : World) {ops : Array Oper} {rest : List Oper} {o : Oper} {a : Act} {Q : Exit → Act → World → Prop} (hgd : o.guard = none) (s x : Operand)
    (ho : o.op = .call { callee := .builtin .append, args := #[s, x], argTypes := #[70, 70] })
    (base : Nat) (v : Value) (n : Nat) (xs : List UInt8) (hs : a.eval s = v) (hown : w.ownsRow base 5 1 v n (Lib.byteCells xs))
    (A : Option Addr) (m c : Nat) (news : List UInt8) (hx : a.eval x = .slice A m c) (hr : Sl w 1 A m (Lib.byteCells news))
    (hbytes : n + m ≤ 140737488355328) (hbase : base ≤ w.heap.size)
    (h : ∀ v' w', w'.ownsRow base 5 1 v' (n + m) (Lib.byteCells (xs ++ news)) → w.grownBy w' v.ownBlock → (v'.ownBlock = v.ownBlock ∨ v'.ownBlock = some w.heap.size) → wpList Try.prog ops Q rest (a.put o.dst v') w') :
    wpList Try.prog ops Q (o :: rest) a w := by
  obtain ⟨i0, hi, hz0, hz1, hz2⟩ := info_parts info_u8
  refine wpList_app w hgd s x _ ho base 5 i0 (.int .u8 0) 1 1 Try.underlying70 hi hz0 hz1 hz2 rfl (by decide) v n _ hs hown A m c _ hx hr (cells_bytes_one _) (by unfold maxLen; omega) (by omega) hbase ?_
  intro v' w' h1 h2 h3
  rw [← cells_bytes_append] at h1
  exact h v' w' h1 h2 h3

theorem cells_bytes_set (l : List UInt8) (k : Nat) (c : UInt8) : (Lib.byteCells l).set k (.int .u8 (c.toNat : Int)) = Lib.byteCells (l.set k c) := by
  simp [Lib.byteCells, List.map_set]
end Go.Proofs.Ytljfolepmkcjlaa

/-
  Plain facts about the numbers' bytes (layer 1): putN, takeN, fold. No program in sight.
-/
namespace Go.Proofs.Ytljfolepmkcjlaa.Plain

abbrev Bs := List UInt8

/-- k digits to the base 128, the highest first, each with its high bit. -/
def hiK : Nat → Nat → Bs
  | 0, _ => []
  | k + 1, m => hiK k (m / 128) ++ [UInt8.ofNat (m % 128 + 128)]

/-- how many digits to the base 128 (fuel: 10 is enough below 2^64). -/
def digs : Nat → Nat → Nat
  | 0, _ => 0
  | f + 1, m => if m = 0 then 0 else digs f (m / 128) + 1

def putN (n : Nat) : Bs :=
  if n < 72057594037927936 then hiK (digs 10 (n / 128)) (n / 128) ++ [UInt8.ofNat (n % 128)]
  else hiK 8 (n / 256) ++ [UInt8.ofNat (n % 256)]

theorem hiK_zero (m : Nat) : hiK 0 m = [] := rfl
theorem hiK_succ (k m : Nat) : hiK (k + 1) m = hiK k (m / 128) ++ [UInt8.ofNat (m % 128 + 128)] := rfl

theorem hiK_length (k m : Nat) : (hiK k m).length = k := by
  induction k generalizing m with
  | zero => rfl
  | succ k ih => simp [hiK, ih]

theorem digs_bound (f m : Nat) (h : m < 128 ^ f) : m < 128 ^ (digs f m) := by
  induction f generalizing m with
  | zero => simpa [digs] using h
  | succ f ih =>
    simp only [digs]
    split
    · subst_vars; simp
    · have h2 : m / 128 < 128 ^ f := by
        rw [Nat.pow_succ] at h; omega
      have := ih (m / 128) h2
      rw [Nat.pow_succ]; omega

theorem digs_low (f m : Nat) (hm : m ≠ 0) (h : m < 128 ^ f) : 0 < digs f m ∧ 128 ^ (digs f m - 1) ≤ m := by
  induction f generalizing m with
  | zero => simp at h; omega
  | succ f ih =>
    simp only [digs, if_neg hm]
    refine ⟨by omega, ?_⟩
    simp only [Nat.add_sub_cancel]
    by_cases h0 : m / 128 = 0
    · rw [h0]
      cases f <;> simp [digs] <;> omega
    · have h2 : m / 128 < 128 ^ f := by
        rw [Nat.pow_succ] at h; omega
      obtain ⟨h3, h4⟩ := ih (m / 128) h0 h2
      have e : 128 ^ digs f (m / 128) = 128 ^ (digs f (m / 128) - 1) * 128 := by
        rw [← Nat.pow_succ]; congr 1; omega
      rw [e]; omega

theorem digs_zero (f : Nat) : digs f 0 = 0 := by cases f <;> simp [digs]

/-- the number of digits is what it has to be -/
theorem digs_eq (f m k : Nat) (h : m < 128 ^ f) (h1 : m < 128 ^ k) (h2 : k = 0 ∨ 128 ^ (k - 1) ≤ m) : digs f m = k := by
  by_cases hm : m = 0
  · subst hm
    rw [digs_zero]
    rcases h2 with h2 | h2
    · omega
    · have : 0 < 128 ^ (k - 1) := Nat.pos_of_ne_zero (by simp); omega
  · obtain ⟨a, b⟩ := digs_low f m hm h
    have c := digs_bound f m h
    rcases Nat.lt_trichotomy (digs f m) k with hlt | he | hgt
    · rcases h2 with h2 | h2
      · omega
      · have : 128 ^ digs f m ≤ 128 ^ (k - 1) := Nat.pow_le_pow_right (by omega) (by omega)
        omega
    · exact he
    · have : 128 ^ k ≤ 128 ^ (digs f m - 1) := Nat.pow_le_pow_right (by omega) (by omega)
      omega

theorem digs_fuel (f g m : Nat) (h : m < 128 ^ f) (h' : m < 128 ^ g) : digs f m = digs g m := by
  by_cases h0 : m = 0
  · subst h0; rw [digs_zero, digs_zero]
  · exact digs_eq f m _ h (digs_bound g m h') (.inr (digs_low g m h0 h').2)

theorem digs_step (m : Nat) (h : m ≠ 0) (hb : m < 18446744073709551616) : digs 10 m = digs 10 (m / 128) + 1 := by
  have e : digs 10 m = digs 9 (m / 128) + 1 := by
    show digs (9 + 1) m = _
    simp only [digs, if_neg h]
  rw [e, digs_fuel 9 10 (m / 128) (by omega) (by omega)]

theorem putN_length (n : Nat) : (putN n).length = if n < 72057594037927936 then digs 10 (n / 128) + 1 else 9 := by
  unfold putN
  split <;> simp [hiK_length]

theorem putN_length_le (n : Nat) : (putN n).length ≤ 9 := by
  rw [putN_length]
  split
  · rename_i h
    have : digs 10 (n / 128) ≤ 8 := by
      have hb : n / 128 < 128 ^ 10 := by omega
      by_cases h0 : n / 128 = 0
      · rw [h0, digs_zero]; omega
      · obtain ⟨a, b⟩ := digs_low 10 (n / 128) h0 hb
        rcases Nat.lt_or_ge 8 (digs 10 (n / 128)) with hl | hl
        · have : 128 ^ 8 ≤ 128 ^ (digs 10 (n / 128) - 1) := Nat.pow_le_pow_right (by omega) (by omega)
          omega
        · exact hl
    omega
  · omega

theorem putN_length_pos (n : Nat) : 0 < (putN n).length := by
  rw [putN_length]; split <;> omega

/-- reading: how many bytes are gone through, the number so far; is it ended? -/
def scan : Nat → Nat → Bs → Nat × Nat × Bool
  | size, n, [] => (size, n, false)
  | size, n, c :: r =>
    if size = 8 then (9, n * 256 + c.toNat, true)
    else if c.toNat < 128 then (size + 1, n * 128 + c.toNat, true)
    else scan (size + 1) (n * 128 + (c.toNat - 128)) r

/-- the number, its size, the error (0: none, 10: short, 11: form). -/
def takeN (s : Bs) : Nat × Nat × Nat :=
  let r := scan 0 0 s
  if r.2.2 = false then (0, 0, 10) else
  if (putN r.2.1).length = r.1 then (r.2.1, r.1, 0) else (0, 0, 11)

def foldI (i : Int) : Nat := if 0 ≤ i then (2 * i).toNat else (2 * (-(i + 1)) + 1).toNat
def unfoldN (n : Nat) : Int := if n % 2 = 0 then (n / 2 : Nat) else -((n / 2 : Nat) : Int) - 1

theorem unfold_fold (i : Int) : unfoldN (foldI i) = i := by
  unfold foldI unfoldN
  split <;> split <;> omega

theorem fold_unfold (n : Nat) : foldI (unfoldN n) = n := by
  unfold foldI unfoldN
  split <;> split <;> omega

theorem foldI_lt (i : Int) (h1 : -9223372036854775808 ≤ i) (h2 : i ≤ 9223372036854775807) : foldI i < 18446744073709551616 := by
  unfold foldI; split <;> omega

theorem unfoldN_bd (n : Nat) (h : n < 18446744073709551616) : -9223372036854775808 ≤ unfoldN n ∧ unfoldN n ≤ 9223372036854775807 := by
  unfold unfoldN; split <;> omega

/-- what a scan that began in the middle has gone through -/
theorem scan_spec (s : Bs) (size n : Nat) (hs : size ≤ 8) (hn : n < 128 ^ size) :
    (scan size n s).2.2 = true →
      size < (scan size n s).1 ∧ (scan size n s).1 ≤ 9 ∧ (scan size n s).1 - size ≤ s.length ∧ (scan size n s).2.1 < 18446744073709551616 ∧
      hiK size n ++ s.take ((scan size n s).1 - size) =
        (if (scan size n s).1 = 9 then hiK 8 ((scan size n s).2.1 / 256) ++ [UInt8.ofNat ((scan size n s).2.1 % 256)]
         else hiK ((scan size n s).1 - 1) ((scan size n s).2.1 / 128) ++ [UInt8.ofNat ((scan size n s).2.1 % 128)]) := by
  induction s generalizing size n with
  | nil => simp [scan]
  | cons c r ih =>
    have hc := c.toNat_lt
    simp only [scan]
    by_cases h8 : size = 8
    · subst h8
      simp only [if_true]
      intro _
      refine ⟨by omega, by omega, by simp, by omega, ?_⟩
      simp only [show 9 - 8 = 1 from rfl, List.take_succ_cons, List.take_zero]
      congr 2
      · omega
      · apply UInt8.toNat_inj.1; simp
    · simp only [if_neg h8]
      by_cases hl : c.toNat < 128
      · simp only [if_pos hl]
        intro _
        have hp : 128 ^ size ≤ 128 ^ 7 := Nat.pow_le_pow_right (by omega) (by omega)
        refine ⟨by omega, by omega, by simp, by omega, ?_⟩
        rw [if_neg (by omega)]
        simp only [Nat.add_sub_cancel, Nat.add_sub_cancel_left, List.take_succ_cons, List.take_zero]
        congr 2
        · omega
        · apply UInt8.toNat_inj.1; simp; omega
      · simp only [if_neg hl]
        intro ht
        have hn' : n * 128 + (c.toNat - 128) < 128 ^ (size + 1) := by rw [Nat.pow_succ]; omega
        obtain ⟨h1, h2, h3, h4, h5⟩ := ih (size + 1) (n * 128 + (c.toNat - 128)) (by omega) hn' ht
        refine ⟨by omega, h2, by simp; omega, h4, ?_⟩
        rw [← h5]
        have e : (scan (size + 1) (n * 128 + (c.toNat - 128)) r).1 - size = (scan (size + 1) (n * 128 + (c.toNat - 128)) r).1 - (size + 1) + 1 := by omega
        rw [e, List.take_succ_cons]
        have e1 : (n * 128 + (c.toNat - 128)) / 128 = n := by omega
        have e2 : UInt8.ofNat ((n * 128 + (c.toNat - 128)) % 128 + 128) = c := by
          apply UInt8.toNat_inj.1
          rw [UInt8.toNat_ofNat']
          omega
        rw [hiK_succ, List.append_assoc, List.singleton_append, e1, e2]

/-- bytes that a number ends in: what was gone through is its putN just if the sizes are the same -/
theorem scan_put (s : Bs) (h : (scan 0 0 s).2.2 = true) :
    ((putN (scan 0 0 s).2.1).length = (scan 0 0 s).1 ↔ putN (scan 0 0 s).2.1 = s.take (scan 0 0 s).1) := by
  obtain ⟨h1, h2, h3, h4, h5⟩ := scan_spec s 0 0 (by omega) (by simp) h
  generalize scan 0 0 s = q at *
  rw [hiK_zero, List.nil_append, Nat.sub_zero] at h5
  rw [Nat.sub_zero] at h3
  constructor
  · intro hl
    rw [h5]
    rw [putN_length] at hl
    unfold putN
    split
    · rename_i hn
      rw [if_pos hn] at hl
      have hle : digs 10 (q.2.1 / 128) ≤ 8 := by have := putN_length_le q.2.1; rw [putN_length, if_pos hn] at this; omega
      by_cases h9 : q.1 = 9
      · exfalso
        have h8 : digs 10 (q.2.1 / 128) = 8 := by omega
        by_cases h0 : q.2.1 / 128 = 0
        · rw [h0, digs_zero] at h8; omega
        · obtain ⟨a, b⟩ := digs_low 10 (q.2.1 / 128) h0 (by omega)
          rw [h8] at b
          omega
      · rw [if_neg h9]
        have : digs 10 (q.2.1 / 128) = q.1 - 1 := by omega
        rw [this]
    · rename_i hn
      rw [if_neg hn] at hl
      rw [if_pos hl.symm]
  · intro he
    rw [he, List.length_take]
    omega

/-- what is put is taken -/
theorem scan_hiK (k : Nat) : ∀ (m size n : Nat) (r : Bs), size + k ≤ 8 → m < 128 ^ k → scan size n (hiK k m ++ r) = scan (size + k) (n * 128 ^ k + m) r := by
  induction k with
  | zero => intro m size n r _ hm; simp [hiK] at *; subst hm; rfl
  | succ k ih =>
    intro m size n r hs hm
    rw [hiK_succ, List.append_assoc, ih (m / 128) size n _ (by omega) (by rw [Nat.pow_succ] at hm; omega)]
    simp only [List.singleton_append, scan]
    have ht : (UInt8.ofNat (m % 128 + 128)).toNat = m % 128 + 128 := by simp; omega
    rw [if_neg (by omega), if_neg (by rw [ht]; omega), ht]
    have e1 : size + k + 1 = size + (k + 1) := by omega
    have e2 : (n * 128 ^ k + m / 128) * 128 + (m % 128 + 128 - 128) = n * 128 ^ (k + 1) + m := by
      rw [Nat.pow_succ, ← Nat.mul_assoc]
      generalize n * 128 ^ k = q
      omega
    rw [e1, e2]

theorem scan_putN (n : Nat) (hn : n < 18446744073709551616) (r : Bs) : scan 0 0 (putN n ++ r) = ((putN n).length, n, true) := by
  rw [putN_length]
  unfold putN
  split
  · rename_i h
    have hb := digs_bound 10 (n / 128) (by omega)
    have hle : digs 10 (n / 128) ≤ 8 := by have := putN_length_le n; rw [putN_length, if_pos h] at this; omega
    have h7 : digs 10 (n / 128) ≤ 7 := by
      rcases Nat.lt_or_ge 7 (digs 10 (n / 128)) with hl | hl
      · exfalso
        have h8 : digs 10 (n / 128) = 8 := by omega
        by_cases h0 : n / 128 = 0
        · rw [h0, digs_zero] at h8; omega
        · obtain ⟨a, b⟩ := digs_low 10 (n / 128) h0 (by omega)
          rw [h8] at b
          omega
      · exact hl
    rw [List.append_assoc, scan_hiK _ _ 0 0 _ (by omega) hb]
    simp only [List.singleton_append, scan, Nat.zero_add, Nat.zero_mul]
    have ht : (UInt8.ofNat (n % 128)).toNat = n % 128 := by simp; omega
    rw [if_neg (by omega), if_pos (by rw [ht]; omega), ht]
    congr 2
    omega
  · rename_i h
    rw [List.append_assoc, scan_hiK 8 _ 0 0 _ (by omega) (by omega)]
    simp only [List.singleton_append, scan, Nat.zero_add, Nat.zero_mul, if_true]
    have ht : (UInt8.ofNat (n % 256)).toNat = n % 256 := by simp
    rw [ht]
    congr 2
    omega

theorem takeN_putN (n : Nat) (hn : n < 18446744073709551616) (r : Bs) : takeN (putN n ++ r) = (n, (putN n).length, 0) := by
  unfold takeN
  rw [scan_putN n hn r]
  simp

theorem takeN_ok (s : Bs) (h : (takeN s).2.2 = 0) : (takeN s).1 < 18446744073709551616 ∧ 0 < (takeN s).2.1 ∧ (takeN s).2.1 ≤ 9 ∧ (takeN s).2.1 ≤ s.length ∧ s.take (takeN s).2.1 = putN (takeN s).1 := by
  unfold takeN at *
  simp only at *
  by_cases h1 : (scan 0 0 s).2.2 = false
  · rw [if_pos h1] at h; simp at h
  · rw [if_neg h1] at h ⊢
    have h1' : (scan 0 0 s).2.2 = true := by simpa using h1
    obtain ⟨a, b, c, d, _⟩ := scan_spec s 0 0 (by omega) (by simp) h1'
    by_cases h2 : (putN (scan 0 0 s).2.1).length = (scan 0 0 s).1
    · rw [if_pos h2]
      exact ⟨d, by simpa using a, b, by simpa using c, ((scan_put s h1').1 h2).symm⟩
    · rw [if_neg h2] at h; simp at h

theorem takeN_bad (s : Bs) (h : (takeN s).2.2 ≠ 0) : (takeN s).1 = 0 ∧ (takeN s).2.1 = 0 := by
  unfold takeN at *
  simp only at *
  split at h
  · rename_i h1; rw [if_pos h1]; exact ⟨rfl, rfl⟩
  · rename_i h1; rw [if_neg h1]
    split at h
    · simp at h
    · rename_i h2; rw [if_neg h2]; exact ⟨rfl, rfl⟩
theorem digs_le_iff (n k : Nat) (h : n < 18446744073709551616) : digs 10 n ≤ k ↔ n / 128 ^ k = 0 := by
  have hb := digs_bound 10 n (by omega)
  rw [Nat.div_eq_zero_iff]
  constructor
  · intro hk
    right
    exact Nat.lt_of_lt_of_le hb (Nat.pow_le_pow_right (by omega) hk)
  · intro hk
    rcases hk with hk | hk
    · have := Nat.pos_of_ne_zero (show (128 : Nat) ^ k ≠ 0 by simp); omega
    · rcases Nat.lt_or_ge k (digs 10 n) with hl | hl
      · exfalso
        by_cases h0 : n = 0
        · subst h0; rw [digs_zero] at hl; omega
        · have := (digs_low 10 n h0 (by omega)).2
          have h2 : 128 ^ k ≤ 128 ^ (digs 10 n - 1) := Nat.pow_le_pow_right (by omega) (by omega)
          omega
      · exact hl

/-- k digits to the base 128, plain -/
def dgL : Nat → Nat → Bs
  | 0, _ => []
  | k + 1, m => dgL k (m / 128) ++ [UInt8.ofNat (m % 128)]
theorem dgL_succ (k m : Nat) : dgL (k + 1) m = dgL k (m / 128) ++ [UInt8.ofNat (m % 128)] := rfl
theorem dgL_front (k m : Nat) : dgL (k + 1) m = UInt8.ofNat (m / 128 ^ k % 128) :: dgL k m := by
  induction k generalizing m with
  | zero => simp [dgL]
  | succ k ih =>
    rw [dgL_succ, ih (m / 128), dgL_succ k m, List.cons_append]
    congr 2
    rw [Nat.div_div_eq_div_mul, Nat.pow_succ, Nat.mul_comm (128 ^ k)]
/-- the first k bytes with their high bits -/
def upTo (k : Nat) (l : Bs) : Bs := (l.take k).map (· + 128) ++ l.drop k
theorem upTo_get (k : Nat) (l : Bs) (h : k < l.length) : (upTo k l)[k]? = some l[k] := by
  unfold upTo
  rw [List.getElem?_append_right (by simp; omega)]
  simp [Nat.min_eq_left (Nat.le_of_lt h), h]
theorem upTo_step (k : Nat) (l : Bs) (h : k < l.length) : (upTo k l).set k (l[k] + 128) = upTo (k + 1) l := by
  unfold upTo
  rw [List.set_append_right _ _ (by simp; omega)]
  simp only [List.length_map, List.length_take, Nat.min_eq_left (Nat.le_of_lt h), Nat.sub_self]
  rw [List.drop_eq_getElem_cons h, List.set_cons_zero, List.take_succ_eq_append_getElem h, List.map_append, List.append_assoc]
  rfl
end Go.Proofs.Ytljfolepmkcjlaa.Plain

/-
  Plain facts about rows and their records (layers 7 and 9). No program in sight.
-/
namespace Go.Proofs.Ytljfolepmkcjlaa.Plain

/-- A value: kind, number, text. -/
structure Val where
  k : Int
  n : Int
  s : Bs
  deriving DecidableEq

/-- the numbers fit their kinds -/
def Val.wf (v : Val) : Prop := 0 ≤ v.k ∧ v.k ≤ 255 ∧ -9223372036854775808 ≤ v.n ∧ v.n ≤ 9223372036854775807

def chk (v : Val) : Int :=
  if v.k > 3 ∨ (v.k ≠ 1 ∧ v.n ≠ 0) ∨ (v.k < 2 ∧ v.s ≠ []) then 2 else if v.s.length > 1000 then 3 else 0

def chkAll : List Val → Int
  | [] => 0
  | v :: r => if chk v ≠ 0 then chk v else chkAll r

def chkRow (l : List Val) : Int := if l.length > 16 then 90 else chkAll l

def tagN (v : Val) : Nat :=
  if v.k = 1 then 1 else if v.k = 2 then 2 * v.s.length + 2 else if v.k = 3 then 2 * v.s.length + 3 else 0
def bodyL (v : Val) : Bs := if v.k = 1 then putN (foldI v.n) else v.s
def tagsL (l : List Val) : Bs := l.flatMap fun v => putN (tagN v)
def bodiesL (l : List Val) : Bs := l.flatMap bodyL
def allL (l : List Val) : Bs := UInt8.ofNat l.length :: (tagsL l ++ bodiesL l)

def putRow (l : List Val) : Bs × Int :=
  if chkRow l ≠ 0 then ([], chkRow l) else if (allL l).length > 4000 then ([], 3) else (allL l, 0)
def takeTags : Nat → Bs → Option (List Nat × Bs)
  | 0, s => some ([], s)
  | k + 1, s => if (takeN s).2.2 = 0 then (takeTags k (s.drop (takeN s).2.1)).map fun p => ((takeN s).1 :: p.1, p.2) else none

def takeBody (t : Nat) (s : Bs) : Option (Val × Bs) :=
  if t = 0 then some (⟨0, 0, []⟩, s) else
  if t = 1 then (if (takeN s).2.2 = 0 then some (⟨1, unfoldN (takeN s).1, []⟩, s.drop (takeN s).2.1) else none) else
  if t / 2 - 1 > 1000 ∨ t / 2 - 1 > s.length then none else
  some (⟨2 + (t % 2 : Nat), 0, s.take (t / 2 - 1)⟩, s.drop (t / 2 - 1))

def takeBodies : List Nat → Bs → Option (List Val × Bs)
  | [], s => some ([], s)
  | t :: r, s => match takeBody t s with
    | none => none
    | some p => (takeBodies r p.2).map fun q => (p.1 :: q.1, q.2)

/-- a row and what is left behind it -/
def takePart (s : Bs) : Option (List Val × Bs) :=
  match s with
  | [] => none
  | c :: r => if c.toNat > 16 then none else
    match takeTags c.toNat r with
    | none => none
    | some p => takeBodies p.1 p.2

def takeRow (s : Bs) : Option (List Val) :=
  if s.length > 4000 then none else
  match takePart s with
  | some (l, []) => some l
  | _ => none

theorem chkAll_zero {l : List Val} : chkAll l = 0 ↔ ∀ v ∈ l, chk v = 0 := by
  induction l with
  | nil => simp [chkAll]
  | cons v r ih =>
    simp only [chkAll]
    by_cases h : chk v = 0
    · simp [h, ih]
    · simp [h]

theorem chk_zero {v : Val} (h : chk v = 0) : v.k ≤ 3 ∧ (v.k = 1 ∨ v.n = 0) ∧ (2 ≤ v.k ∨ v.s = []) ∧ v.s.length ≤ 1000 := by
  unfold chk at h
  split at h
  · omega
  · rename_i h1
    split at h
    · omega
    · refine ⟨by omega, ?_, ?_, by omega⟩
      · by_cases h3 : v.k = 1
        · exact .inl h3
        · right; by_cases h4 : v.n = 0
          · exact h4
          · exact absurd (.inr (.inl ⟨h3, h4⟩)) h1
      · by_cases h3 : v.k < 2
        · right; by_cases h4 : v.s = []
          · exact h4
          · exact absurd (.inr (.inr ⟨h3, h4⟩)) h1
        · left; omega

theorem chkRow_zero {l : List Val} (h : chkRow l = 0) : l.length ≤ 16 ∧ ∀ v ∈ l, chk v = 0 := by
  unfold chkRow at h
  split at h
  · omega
  · exact ⟨by omega, chkAll_zero.1 h⟩

theorem tagN_lt (v : Val) (h : chk v = 0) : tagN v < 18446744073709551616 := by
  obtain ⟨_, _, _, h4⟩ := chk_zero h
  unfold tagN; split <;> (try split) <;> (try split) <;> omega

theorem takeTags_put (l : List Val) (h : ∀ v ∈ l, chk v = 0) (r : Bs) : takeTags l.length (tagsL l ++ r) = some (l.map tagN, r) := by
  induction l with
  | nil => rfl
  | cons v q ih =>
    have hv := tagN_lt v (h v (by simp))
    have hs : tagsL (v :: q) ++ r = putN (tagN v) ++ (tagsL q ++ r) := by simp [tagsL]
    rw [hs, List.length_cons]
    simp only [takeTags, takeN_putN _ hv, if_true]
    rw [List.drop_left, ih (fun x hx => h x (by simp [hx]))]
    simp

theorem takeBody_put (v : Val) (h : chk v = 0) (hw : v.wf) (r : Bs) : takeBody (tagN v) (bodyL v ++ r) = some (v, r) := by
  obtain ⟨h1, h2, h3, h4⟩ := chk_zero h
  obtain ⟨w1, w2, w3, w4⟩ := hw
  obtain ⟨k, n, s⟩ := v
  simp only at *
  unfold takeBody tagN bodyL
  simp only
  by_cases e1 : k = 1
  · subst e1
    have hf := foldI_lt n w3 w4
    rcases h3 with h3 | h3
    · omega
    · subst h3
      simp [takeN_putN _ hf, unfold_fold]
  · rcases h2 with h2 | h2
    · exact absurd h2 e1
    · subst h2
      by_cases e2 : k = 2
      · subst e2
        simp only [show ¬((2 : Int) = 1) by omega, if_false, if_true]
        rw [if_neg (by omega), if_neg (by omega), if_neg (by simp; omega)]
        have e : (2 * s.length + 2) / 2 - 1 = s.length := by omega
        have e' : (2 * s.length + 2) % 2 = 0 := by omega
        rw [e, e', List.take_left, List.drop_left]
        rfl
      · by_cases e3 : k = 3
        · subst e3
          simp only [show ¬((3 : Int) = 1) by omega, show ¬((3 : Int) = 2) by omega, if_false, if_true]
          rw [if_neg (by omega), if_neg (by omega), if_neg (by simp; omega)]
          have e : (2 * s.length + 3) / 2 - 1 = s.length := by omega
          have e' : (2 * s.length + 3) % 2 = 1 := by omega
          rw [e, e', List.take_left, List.drop_left]
          rfl
        · have hk : k = 0 := by omega
          subst hk
          rcases h3 with h3 | h3
          · omega
          · subst h3; simp

theorem takeBodies_put (l : List Val) (h : ∀ v ∈ l, chk v = 0) (hw : ∀ v ∈ l, v.wf) (r : Bs) : takeBodies (l.map tagN) (bodiesL l ++ r) = some (l, r) := by
  induction l with
  | nil => rfl
  | cons v q ih =>
    have hs : bodiesL (v :: q) ++ r = bodyL v ++ (bodiesL q ++ r) := by simp [bodiesL]
    rw [hs, List.map_cons]
    simp only [takeBodies, takeBody_put v (h v (by simp)) (hw v (by simp)), ih (fun x hx => h x (by simp [hx])) (fun x hx => hw x (by simp [hx]))]
    rfl

theorem takePart_put (l : List Val) (h : chkRow l = 0) (hw : ∀ v ∈ l, v.wf) (r : Bs) : takePart (allL l ++ r) = some (l, r) := by
  obtain ⟨h1, h2⟩ := chkRow_zero h
  have e : (UInt8.ofNat l.length).toNat = l.length := by rw [UInt8.toNat_ofNat']; omega
  simp only [allL, takePart, List.cons_append]
  rw [e, if_neg (by omega), List.append_assoc, takeTags_put l h2]
  exact takeBodies_put l h2 hw r

theorem putRow_ok {l : List Val} (h : (putRow l).2 = 0) : chkRow l = 0 ∧ (allL l).length ≤ 4000 ∧ (putRow l).1 = allL l := by
  unfold putRow at *
  split at h
  · rename_i h1; exact absurd h h1
  · rename_i h1
    split at h
    · simp at h
    · rename_i h2
      rw [if_neg h1, if_neg h2]
      exact ⟨by omega, by omega, rfl⟩

theorem takeRow_put {l : List Val} (h : (putRow l).2 = 0) (hw : ∀ v ∈ l, v.wf) : takeRow (putRow l).1 = some l := by
  obtain ⟨h1, h2, h3⟩ := putRow_ok h
  have := takePart_put l h1 hw []
  rw [List.append_nil] at this
  unfold takeRow
  rw [h3, if_neg (by omega), this]

theorem takeTags_spec (k : Nat) : ∀ (s : Bs) (ts : List Nat) (r : Bs), takeTags k s = some (ts, r) → ts.length = k ∧ s = (ts.flatMap putN) ++ r ∧ ∀ t ∈ ts, t < 18446744073709551616 := by
  induction k with
  | zero =>
    intro s ts r h
    simp only [takeTags, Option.some.injEq, Prod.mk.injEq] at h
    obtain ⟨rfl, rfl⟩ := h
    simp
  | succ k ih =>
    intro s ts r h
    simp only [takeTags] at h
    split at h
    · rename_i h0
      cases hq : takeTags k (s.drop (takeN s).2.1) with
      | none => rw [hq] at h; simp at h
      | some p =>
        rw [hq] at h
        simp only [Option.map_some, Option.some.injEq, Prod.mk.injEq] at h
        obtain ⟨rfl, rfl⟩ := h
        obtain ⟨i1, i2, i3⟩ := ih _ _ _ hq
        obtain ⟨t1, t2, t3, t4, t5⟩ := takeN_ok s h0
        refine ⟨by simp [i1], ?_, ?_⟩
        · rw [List.flatMap_cons, List.append_assoc, ← i2, ← t5, List.take_append_drop]
        · intro t ht
          simp only [List.mem_cons] at ht
          rcases ht with rfl | ht
          · exact t1
          · exact i3 t ht
    · simp at h

theorem takeBody_spec {t : Nat} {s : Bs} {v : Val} {r : Bs} (h : takeBody t s = some (v, r)) : chk v = 0 ∧ tagN v = t ∧ s = bodyL v ++ r ∧ v.wf := by
  unfold takeBody at h
  by_cases h0 : t = 0
  · rw [if_pos h0] at h
    simp only [Option.some.injEq, Prod.mk.injEq] at h
    obtain ⟨rfl, rfl⟩ := h
    subst h0
    exact ⟨by simp [chk], by simp [tagN], by simp [bodyL], by simp [Val.wf]⟩
  · rw [if_neg h0] at h
    by_cases h1 : t = 1
    · rw [if_pos h1] at h
      split at h
      · rename_i h2
        simp only [Option.some.injEq, Prod.mk.injEq] at h
        obtain ⟨rfl, rfl⟩ := h
        obtain ⟨t1, t2, t3, t4, t5⟩ := takeN_ok s h2
        refine ⟨by simp [chk], by simp [tagN, h1], ?_, ?_⟩
        · simp only [bodyL, if_true, fold_unfold]
          rw [← t5, List.take_append_drop]
        · have := unfoldN_bd _ t1
          simp only [Val.wf]
          omega
      · simp at h
    · rw [if_neg h1] at h
      split at h
      · simp at h
      · rename_i h2
        simp only [Option.some.injEq, Prod.mk.injEq] at h
        obtain ⟨rfl, rfl⟩ := h
        have hl : (s.take (t / 2 - 1)).length = t / 2 - 1 := by rw [List.length_take]; omega
        rcases Nat.mod_two_eq_zero_or_one t with hm | hm
        · refine ⟨?_, ?_, ?_, ?_⟩
          · simp only [chk, hm, hl]
            rw [if_neg (by simp), if_neg (by omega)]
          · simp only [tagN, hm, hl]
            simp
            omega
          · simp [bodyL, hm]
          · simp [Val.wf, hm]
        · refine ⟨?_, ?_, ?_, ?_⟩
          · simp only [chk, hm, hl]
            rw [if_neg (by simp), if_neg (by omega)]
          · simp only [tagN, hm, hl]
            simp
            omega
          · simp [bodyL, hm]
          · simp [Val.wf, hm]

theorem takeBodies_spec (ts : List Nat) : ∀ (s : Bs) (l : List Val) (r : Bs), takeBodies ts s = some (l, r) → (∀ v ∈ l, chk v = 0) ∧ l.map tagN = ts ∧ s = bodiesL l ++ r ∧ ∀ v ∈ l, v.wf := by
  induction ts with
  | nil =>
    intro s l r h
    simp only [takeBodies, Option.some.injEq, Prod.mk.injEq] at h
    obtain ⟨rfl, rfl⟩ := h
    simp [bodiesL]
  | cons t ts ih =>
    intro s l r h
    simp only [takeBodies] at h
    cases hb : takeBody t s with
    | none => rw [hb] at h; simp at h
    | some p =>
      obtain ⟨v, r1⟩ := p
      rw [hb] at h
      simp only at h
      cases hq : takeBodies ts r1 with
      | none => rw [hq] at h; simp at h
      | some q =>
        rw [hq] at h
        simp only [Option.map_some, Option.some.injEq, Prod.mk.injEq] at h
        obtain ⟨rfl, rfl⟩ := h
        obtain ⟨i1, i2, i3, i4⟩ := ih _ _ _ hq
        obtain ⟨b1, b2, b3, b4⟩ := takeBody_spec hb
        refine ⟨?_, by simp [b2, i2], ?_, ?_⟩
        · intro x hx; simp only [List.mem_cons] at hx
          rcases hx with rfl | hx
          · exact b1
          · exact i1 x hx
        · rw [b3, i3]; simp [bodiesL]
        · intro x hx; simp only [List.mem_cons] at hx
          rcases hx with rfl | hx
          · exact b4
          · exact i4 x hx

theorem takeRow_spec {s : Bs} {l : List Val} (h : takeRow s = some l) : putRow l = (s, 0) ∧ ∀ v ∈ l, v.wf := by
  unfold takeRow at h
  split at h
  · simp at h
  · rename_i hlen
    cases hp : takePart s with
    | none => rw [hp] at h; simp at h
    | some p =>
      obtain ⟨l', r⟩ := p
      rw [hp] at h
      cases r with
      | cons a b => simp at h
      | nil =>
        simp only [Option.some.injEq] at h
        subst h
        unfold takePart at hp
        cases s with
        | nil => simp at hp
        | cons c r =>
          simp only at hp
          split at hp
          · simp at hp
          · rename_i hc
            cases ht : takeTags c.toNat r with
            | none => rw [ht] at hp; simp at hp
            | some q =>
              obtain ⟨ts, r1⟩ := q
              rw [ht] at hp
              simp only at hp
              obtain ⟨t1, t2, t3⟩ := takeTags_spec _ _ _ _ ht
              obtain ⟨b1, b2, b3, b4⟩ := takeBodies_spec _ _ _ _ hp
              rw [List.append_nil] at b3
              have hl : l'.length = c.toNat := by rw [← t1, ← b2, List.length_map]
              have hall : allL l' = c :: r := by
                unfold allL
                rw [hl, t2, b3]
                congr 1
                · simp
                · congr 1
                  rw [← b2, List.flatMap_map]
                  rfl
              have hchk : chkRow l' = 0 := by
                unfold chkRow
                rw [if_neg (by omega)]
                exact chkAll_zero.2 b1
              refine ⟨?_, b4⟩
              unfold putRow
              rw [if_neg (by simp [hchk]), hall, if_neg hlen]

theorem bodyL_length_le (v : Val) (h : chk v = 0) : (bodyL v).length ≤ 1000 := by
  obtain ⟨_, _, _, h4⟩ := chk_zero h
  unfold bodyL
  split
  · have := putN_length_le (foldI v.n); omega
  · exact h4

theorem tagsL_length_le (l : List Val) : (tagsL l).length ≤ 9 * l.length := by
  induction l with
  | nil => simp [tagsL]
  | cons v r ih =>
    have := putN_length_le (tagN v)
    simp [tagsL] at *
    omega

theorem bodiesL_length_le (l : List Val) (h : ∀ v ∈ l, chk v = 0) : (bodiesL l).length ≤ 1000 * l.length := by
  induction l with
  | nil => simp [bodiesL]
  | cons v r ih =>
    have h1 := bodyL_length_le v (h v (by simp))
    have h2 := ih (fun x hx => h x (by simp [hx]))
    simp [bodiesL] at *
    omega
end Go.Proofs.Ytljfolepmkcjlaa.Plain

/-
  The walks of value.bare, value.Check, counterfoilref07.Check: what they answer at any value.
-/
namespace Go.Proofs.Ytljfolepmkcjlaa
open Go.RowKit Plain

/-- a value as the program has it -/
def vOf (v : Val) : Value := .agg #[.int .u8 v.k, .int .i64 v.n, .string ⟨v.s.toArray⟩]

def bareV (v : Val) : Val :=
  if v.k = 1 then ⟨v.k, v.n, []⟩ else if v.k = 2 ∨ v.k = 3 then ⟨v.k, 0, v.s⟩ else ⟨v.k, 0, []⟩

set_option maxHeartbeats 400000 in
theorem bare_any (k n : Int) (s : Bs) (w : World) :
    Calls Try.prog 102 #[.agg #[.int .u8 k, .int .i64 n, .string ⟨s.toArray⟩]] w fun e w' => e = .returned (vOf (bareV ⟨k, n, s⟩)) ∧ Below w.heap.size w w' := by
  by_cases h1 : k = 1
  · subst h1
    go_enter Try.func102, Try.ntmps102
    go_wp2
    exact bodyPost_ret (v := .agg #[.int .u8 1, .int .i64 n, .string ⟨#[]⟩]) (by simp [results, Try.results102, go_sem]) rfl ⟨rfl, ((((Below.refl _ _).alloc (Nat.le_refl _) _).alloc (by simp) _))⟩
  · by_cases h2 : k = 2
    · subst h2
      go_enter Try.func102, Try.ntmps102
      go_wp2
      exact bodyPost_ret (v := .agg #[.int .u8 2, .int .i64 0, .string ⟨s.toArray⟩]) (by simp [results, Try.results102, go_sem]) rfl ⟨rfl, ((((Below.refl _ _).alloc (Nat.le_refl _) _).alloc (by simp) _))⟩
    · by_cases h3 : k = 3
      · subst h3
        go_enter Try.func102, Try.ntmps102
        go_wp2
        exact bodyPost_ret (v := .agg #[.int .u8 3, .int .i64 0, .string ⟨s.toArray⟩]) (by simp [results, Try.results102, go_sem]) rfl ⟨rfl, ((((Below.refl _ _).alloc (Nat.le_refl _) _).alloc (by simp) _))⟩
      · have e1 : (k == 1) = false := by simpa using h1
        have e2 : (k == 2) = false := by simpa using h2
        have e3 : (k == 3) = false := by simpa using h3
        go_enter Try.func102, Try.ntmps102
        go_wp2
        exact bodyPost_ret (v := .agg #[.int .u8 k, .int .i64 0, .string ⟨#[]⟩]) (by simp [results, Try.results102, go_sem]) rfl ⟨by simp [bareV, vOf, h1, h2, h3], ((((Below.refl _ _).alloc (Nat.le_refl _) _).alloc (by simp) _))⟩

theorem bareV_eq (v : Val) : (v.k > 3 ∨ v ≠ bareV v) ↔ (v.k > 3 ∨ (v.k ≠ 1 ∧ v.n ≠ 0) ∨ (v.k < 2 ∧ v.s ≠ [])) := by
  obtain ⟨k, n, s⟩ := v
  unfold bareV
  simp only
  split
  · rename_i h; subst h; simp
  · rename_i h1
    split
    · rename_i h2
      simp only [ne_eq, Val.mk.injEq, true_and, and_true]
      constructor
      · rintro (h | h)
        · exact .inl h
        · exact .inr (.inl ⟨h1, h⟩)
      · rintro (h | h | h)
        · exact .inl h
        · exact .inr h.2
        · omega
    · rename_i h2
      simp only [ne_eq, Val.mk.injEq, true_and]
      by_cases h3 : k > 3
      · simp [h3]
      · by_cases h4 : n = 0
        · subst h4
          by_cases h5 : s = []
          · simp [h5]
          · simp only [h5, and_false, not_false_eq_true, or_true, true_iff]
            by_cases h6 : k < 2
            · simp [h6]
            · omega
        · simp [h1, h4]

/-! ### two values held against each other -/
theorem valT_st : Try.prog.stoodInHeld 49 = false := by kernel_rfl
theorem valT_eg : Try.prog.eqGuardType Try.prog.depth 49 = false := by kernel_rfl
theorem valT_un : Try.prog.underlying 49 = some (.struct (Try.prog.fieldsOf 49)) := by kernel_rfl
theorem valT_fs : Try.prog.fieldsOf 49 = #[{ name := "Kind", type := 5, offset := 0, embedded := false, tag := "", pkgPath := "", byteOffset := 0 }, { name := "N", type := 2, offset := 1, embedded := false, tag := "", pkgPath := "", byteOffset := 8 }, { name := "S", type := 9, offset := 2, embedded := false, tag := "", pkgPath := "", byteOffset := 16 }] := by kernel_rfl
theorem run_eqv (w : World) (v v' : Val) : (Op.equalIn 10000 49 (vOf v) (vOf v')).run Try.prog w = .ok (decide (v = v')) w := by
  unfold vOf
  rw [show (10000 : Nat) = 9999 + 1 from rfl, run_equalIn_agg w 9999 _ _ _ valT_un valT_st, valT_fs]
  obtain ⟨k, n, s⟩ := v
  obtain ⟨k', n', s'⟩ := v'
  simp [Op.eqFields, part, go_sem]
  by_cases h1 : k = k' <;> by_cases h2 : n = n' <;> by_cases h3 : s = s' <;> simp [h1, h2, h3]

theorem run_neqv (w : World) (v v' : Val) : (binOp .neq 49 (vOf v) (vOf v')).run Try.prog w = .ok (.bool (decide (v ≠ v'))) w := by
  have h := run_eqv w v v'
  unfold vOf at *
  rw [run_neq_struct, h]
  simp [Result.andThen]
theorem run_egv (w : World) (op : BinOp) (x y : Operand) (v v' : Val) : (eqGuard op 49 x y (vOf v) (vOf v')).run Try.prog w = .ok () w :=
  run_eqGuard_agg w op _ x y _ _ valT_eg

theorem bcell {W w1 : World} (hb : Below W.heap.size W w1) : (∀ b o, b < W.heap.size → w1.cell? ⟨b, o, none⟩ = W.cell? ⟨b, o, none⟩) ∧ (∀ b o, b < W.heap.size → w1.frozen? ⟨b, o, none⟩ = W.frozen? ⟨b, o, none⟩) :=
  ⟨fun b o h => hb.cell (p := ⟨b, o, none⟩) h, fun b o h => hb.frozen (p := ⟨b, o, none⟩) h⟩

set_option maxHeartbeats 400000 in
theorem vcheck_any (k n : Int) (s : Bs) (w : World) :
    Calls Try.prog 90 #[.agg #[.int .u8 k, .int .i64 n, .string ⟨s.toArray⟩]] w fun e w' => e = .returned (.int .i64 (chk ⟨k, n, s⟩)) ∧ Below w.heap.size w w' := by
  have hq := bareV_eq ⟨k, n, s⟩
  by_cases h1 : 3 < k
  · clear hq
    have hd : decide (3 < k) = true := by simpa using h1
    go_enter Try.func90, Try.ntmps90
    go_wp2_with fail
    go_quiet (fail)
    go_wp2
    go_ret
    exact ⟨by simp [chk, h1], below_drewN ((Below.refl _ w).alloc (Nat.le_refl _) _) _⟩
  · have hd : decide (3 < k) = false := by simpa using h1
    have hn : ∀ w' : World, (binOp .neq 49 (.agg #[.int .u8 k, .int .i64 n, .string ⟨s.toArray⟩]) (vOf (bareV ⟨k, n, s⟩))).run Try.prog w' = .ok (.bool (decide ((⟨k, n, s⟩ : Val) ≠ bareV ⟨k, n, s⟩))) w' := fun w' => run_neqv w' ⟨k, n, s⟩ _
    have hg : ∀ (w' : World) (x y : Operand), (eqGuard .neq 49 x y (.agg #[.int .u8 k, .int .i64 n, .string ⟨s.toArray⟩]) (vOf (bareV ⟨k, n, s⟩))).run Try.prog w' = .ok () w' := fun w' x y => run_egv w' _ x y ⟨k, n, s⟩ _
    have hc := Lib.hid (fun w' => bare_any k n s w')
    have HQ := Lib.hid hq
    clear hq
    generalize vOf (bareV ⟨k, n, s⟩) = bv at *
    by_cases hb : (⟨k, n, s⟩ : Val) = bareV ⟨k, n, s⟩
    · have hb' : decide ((⟨k, n, s⟩ : Val) ≠ bareV ⟨k, n, s⟩) = false := by simpa using hb
      rw [hb'] at hn
      have hfin : chk ⟨k, n, s⟩ = if s.length > 1000 then 3 else 0 := by
        unfold chk
        rw [if_neg]
        intro hx
        rcases HQ.out.2 hx with h | h
        · exact h1 h
        · exact h hb
      have HF := Lib.hid hfin
      clear hb hb' hfin HQ
      go_enter Try.func90, Try.ntmps90
      go_wp2_with fail
      go_region_with (go_at_call 102; refine (hc.out _).mono ?_; rintro e w' ⟨rfl, hb⟩; obtain ⟨hce, hfr⟩ := bcell hb)
      all_goals
        go_wp2
        all_goals
          go_ret
          refine ⟨by first | (rw [HF.out, if_pos (by omega)]; rfl) | (rw [HF.out, if_neg (by omega)]; rfl), ((Below.refl _ w).alloc (Nat.le_refl _) _).drew.trans (hb.mono (B' := w.heap.size) (by simp))⟩
    · have hb' : decide ((⟨k, n, s⟩ : Val) ≠ bareV ⟨k, n, s⟩) = true := by simpa using hb
      rw [hb'] at hn
      have hfin : chk ⟨k, n, s⟩ = 2 := by
        unfold chk
        rw [if_pos (HQ.out.1 (.inr hb))]
      have HF := Lib.hid hfin
      clear hb hb' hfin HQ
      go_enter Try.func90, Try.ntmps90
      go_wp2_with fail
      go_region_with (go_at_call 102; refine (hc.out _).mono ?_; rintro e w' ⟨rfl, hb⟩; obtain ⟨hce, hfr⟩ := bcell hb)
      all_goals
        go_wp2
        all_goals
          go_ret
          exact ⟨by rw [HF.out]; rfl, ((Below.refl _ w).alloc (Nat.le_refl _) _).drew.trans (hb.mono (B' := w.heap.size) (by simp))⟩

theorem ret_int {k : IntKind} {a b : Int} (h : a = b) : Ending.returned (.int k a) = .returned (.int k b) := by rw [h]

end Go.Proofs.Ytljfolepmkcjlaa

/-
  The walks of record.check and counterfoilref09.Check over any row.
-/
namespace Go.Proofs.Ytljfolepmkcjlaa
open Go.RowKit Plain

/-- A row's cells. -/
def rowCells (l : List Val) : List Value := l.flatMap fun v => [.int .u8 v.k, .int .i64 v.n, .string ⟨v.s.toArray⟩]

theorem rowCells_length (l : List Val) : (rowCells l).length = l.length * 3 := by
  induction l with
  | nil => rfl
  | cons v r ih => simp [rowCells] at *; omega
theorem rowCells_append (a b : List Val) : rowCells (a ++ b) = rowCells a ++ rowCells b := by simp [rowCells]
theorem rowCells_get (l : List Val) (k : Nat) (hk : k < l.length) : (rowCells l)[k * 3]? = some (.int .u8 l[k].k) ∧ (rowCells l)[k * 3 + 1]? = some (.int .i64 l[k].n) ∧ (rowCells l)[k * 3 + 2]? = some (.string ⟨l[k].s.toArray⟩) := by
  have e : rowCells l = rowCells (l.take k) ++ (rowCells [l[k]] ++ rowCells (l.drop (k + 1))) := by
    rw [← rowCells_append, ← rowCells_append, List.singleton_append, ← List.drop_eq_getElem_cons hk, List.take_append_drop]
  have hl : (rowCells (l.take k)).length = k * 3 := by rw [rowCells_length, List.length_take]; omega
  rw [e]
  refine ⟨?_, ?_, ?_⟩ <;> rw [List.getElem?_append_right (by omega), hl] <;> simp [rowCells]

/-- the slice '.slice A _ _' is the row l -/
def Row (w : World) (A : Option Addr) (l : List Val) : Prop := Sl w 3 A l.length (rowCells l)

theorem Row.at {w : World} {A : Option Addr} {l : List Val} (h : Row w A l) (h0 : 0 < l.length) : ∃ b off, A = some ⟨b, off, none⟩ ∧ b < w.heap.size ∧ ∀ k (hk : k < l.length), w.cell? ⟨b, off + k * 3, none⟩ = some (.int .u8 l[k].k) ∧ w.cell? ⟨b, off + k * 3 + 1, none⟩ = some (.int .i64 l[k].n) ∧ w.cell? ⟨b, off + k * 3 + 2, none⟩ = some (.string ⟨l[k].s.toArray⟩) := by
  obtain ⟨b, off, e, hc⟩ := h.2 (by omega)
  have key : ∀ k (hk : k < l.length), w.cell? ⟨b, off + k * 3, none⟩ = some (.int .u8 l[k].k) ∧ w.cell? ⟨b, off + k * 3 + 1, none⟩ = some (.int .i64 l[k].n) ∧ w.cell? ⟨b, off + k * 3 + 2, none⟩ = some (.string ⟨l[k].s.toArray⟩) := by
    intro k hk
    obtain ⟨g1, g2, g3⟩ := rowCells_get l k hk
    exact ⟨hc _ _ g1, hc _ _ g2, hc _ _ g3⟩
  exact ⟨b, off, e, World.block_lt_of_cell? w _ (key 0 h0).1, key⟩
theorem Row.below {w w' : World} {A : Option Addr} {l : List Val} {B : Nat} (h : Row w A l) (hb : Below B w w') (hB : w.heap.size ≤ B) : Row w' A l := Sl.below h hb hB

def ChkRel (l : List Val) (k : Nat) : Prop := k ≤ l.length ∧ chkAll l = chkAll (l.drop k)
theorem ChkRel.bad {l : List Val} {k : Nat} (h : ChkRel l k) (hk : k < l.length) (hc : chk l[k] ≠ 0) : chkAll l = chk l[k] := by
  rw [h.2, List.drop_eq_getElem_cons hk]; simp [chkAll, hc]
theorem ChkRel.good {l : List Val} {k : Nat} (h : ChkRel l k) (hk : k < l.length) (hc : chk l[k] = 0) : ChkRel l (k + 1) := by
  refine ⟨hk, ?_⟩
  rw [h.2, List.drop_eq_getElem_cons hk]; simp [chkAll, hc]
theorem ChkRel.fin {l : List Val} {k : Nat} (h : ChkRel l k) (hk : ¬ k < l.length) : chkAll l = 0 := by
  have : k = l.length := by have := h.1; omega
  rw [h.2, this, List.drop_length]; rfl

set_option maxHeartbeats 400000 in
theorem crow_any (A : Option Addr) (c : Nat) (l : List Val) (w : World) (hr : Row w A l) (hl : l.length ≤ 65536) :
    Calls Try.prog 76 #[.slice A l.length c] w fun e w' => e = .returned (.int .i64 (chkRow l)) ∧ Below w.heap.size w w' := by
  by_cases h16 : 16 < l.length
  · have hfin := Lib.hid (show chkRow l = 90 by unfold chkRow; rw [if_pos h16])
    have h16' : (16 : Int) < (l.length : Int) := by omega
    go_enter Try.func76, Try.ntmps76
    go_wp2
    go_ret
    exact ⟨ret_int (by rw [hfin.out]), Below.refl _ _⟩
  · have hfin := Lib.hid (show chkRow l = chkAll l by unfold chkRow; rw [if_neg h16])
    have h16' : (l.length : Int) ≤ 16 := by omega
    have h00 : (0 : Int) ≤ (l.length : Int) := by omega
    have HR := Lib.hid hr
    go_enter Try.func76, Try.ntmps76
    clear hl hr h16
    go_wp2
    go_loopw [11] (fun i wr => ∃ k : Nat, i = .int .i64 (k : Int) ∧ ChkRel l k ∧ Below w.heap.size w wr) (fun i _ => l.length - (intOf i).toNat)
    case atStart => exact ⟨0, rfl, ⟨by omega, rfl⟩, Below.refl _ _⟩
    case round =>
      obtain ⟨k, rfl, hC, hB⟩ := hrel
      by_cases hk : k < l.length
      · obtain ⟨b, off, rfl, hbl, hcell⟩ := HR.out.at (by omega)
        obtain ⟨c0, c1, c2⟩ := hcell k hk
        have d0 : wr.cell? ⟨b, off + k * 3, none⟩ = _ := (hB.cell (p := ⟨b, off + k * 3, none⟩) hbl).trans c0
        have d1 : wr.cell? ⟨b, off + k * 3 + 1, none⟩ = _ := (hB.cell (p := ⟨b, off + k * 3 + 1, none⟩) hbl).trans c1
        have d2 : wr.cell? ⟨b, off + k * 3 + 2, none⟩ = _ := (hB.cell (p := ⟨b, off + k * 3 + 2, none⟩) hbl).trans c2
        clear c0 c1 c2 hcell
        have hkI : (k : Int) < (l.length : Int) := by omega
        have hz := hB.size
        obtain ⟨v, hv⟩ : ∃ v, l[k] = v := ⟨_, rfl⟩
        rw [hv] at d0 d1 d2
        by_cases hc : chk v = 0
        · have hn := Lib.hid (hC.good hk (by rw [hv]; exact hc))
          have hcc : ∀ w', Calls Try.prog 90 #[.agg #[.int .u8 v.k, .int .i64 v.n, .string ⟨v.s.toArray⟩]] w' fun e w'' => e = .returned (.int .i64 0) ∧ Below w'.heap.size w' w'' := fun w' => by
            have := vcheck_any v.k v.n v.s w'
            rwa [show chk ⟨v.k, v.n, v.s⟩ = 0 from hc] at this
          have HC := Lib.hid hcc
          clear hcc hC hv hc
          go_wp2_with (go_at_call 90; refine (HC.out _).mono ?_; rintro e w2 ⟨rfl, hb⟩)
          go_roundw
          case rel => exact ⟨k + 1, by go_num, hn.out, (hB.alloc hz _).trans (hb.mono (by simp; omega))⟩
          case measure => simp [intOf]; omega
        · have hn := Lib.hid (hC.bad hk (by rw [hv]; exact hc))
          have hne : (chk v != 0) = true := by rw [bne_iff_ne]; exact hc
          have HC := Lib.hid (fun w' => vcheck_any v.k v.n v.s w')
          have HV := Lib.hid hv
          have e : (⟨v.k, v.n, v.s⟩ : Val) = v := rfl
          rw [e] at HC
          clear hC hv hc e
          generalize hq : chk v = q at *
          have HQ := Lib.hid hq
          clear hq
          go_wp2_with (go_at_call 90; refine (HC.out _).mono ?_; rintro e w2 ⟨rfl, hb⟩)
          go_ret
          exact ⟨ret_int (by rw [hfin.out, hn.out, HV.out, HQ.out]), (hB.alloc hz _).trans (hb.mono (by simp; omega))⟩
      · have hn := Lib.hid (hC.fin hk)
        have hkI : ¬ (k : Int) < (l.length : Int) := by omega
        clear hC hk
        go_wp2
        go_ret
        exact ⟨ret_int (by rw [hfin.out, hn.out]), hB⟩
end Go.Proofs.Ytljfolepmkcjlaa

/-
  The walk of the reference's Same on two rows.
-/
namespace Go.Proofs.Ytljfolepmkcjlaa
open Go.RowKit Plain

/-- what Same's loop holds to -/
def SameRel (l m : List Val) (k : Nat) : Prop := k ≤ l.length ∧ l.take k = m.take k
theorem SameRel.good {l m : List Val} {k : Nat} (h : SameRel l m k) (hlm : l.length = m.length) (hk : k < l.length) (he : l[k] = m[k]'(by omega)) : SameRel l m (k + 1) := by
  refine ⟨hk, ?_⟩
  rw [List.take_succ_eq_append_getElem hk, List.take_succ_eq_append_getElem (by omega : k < m.length), h.2, he]
theorem SameRel.fin {l m : List Val} {k : Nat} (h : SameRel l m k) (hlm : l.length = m.length) (hk : ¬ k < l.length) : l = m := by
  have := h.2
  rw [List.take_of_length_le (by omega), List.take_of_length_le (by omega)] at this
  exact this

set_option maxHeartbeats 400000 in
theorem same_any (A C : Option Addr) (c1 c2 : Nat) (l m : List Val) (w : World) (hr : Row w A l) (hs : Row w C m) (hl : l.length ≤ 65536) :
    Calls Try.prog 36 #[.slice A l.length c1, .slice C m.length c2] w fun e w' => e = .returned (.bool (decide (l = m))) ∧ Below w.heap.size w w' := by
  by_cases hlm : l.length = m.length
  · have HLM := Lib.hid hlm
    have hne : ((l.length : Int) != (m.length : Int)) = false := by rw [hlm]; simp
    have HR := Lib.hid hr
    have HS := Lib.hid hs
    obtain ⟨bb, hbb⟩ : ∃ b : Bool, decide (l = m) = b := ⟨_, rfl⟩
    rw [hbb]
    have HBB := Lib.hid hbb
    go_enter Try.func36, Try.ntmps36
    clear hr hs hlm hbb
    go_wp2
    go_loopw [5] (fun i wr => ∃ k : Nat, i = .int .i64 (k : Int) ∧ SameRel l m k ∧ Below w.heap.size w wr) (fun i _ => l.length - (intOf i).toNat)
    case atStart => exact ⟨0, rfl, ⟨by omega, rfl⟩, Below.refl _ _⟩
    case round =>
      obtain ⟨k, rfl, hC, hB⟩ := hrel
      by_cases hk : k < l.length
      · have hlm := HLM.out
        obtain ⟨b, off, hA, hbl, hcell⟩ := HR.out.at (by omega)
        obtain ⟨b', off', hA', hbl', hcell'⟩ := HS.out.at (by omega)
        subst hA hA'
        obtain ⟨x0, x1, x2⟩ := hcell k hk
        obtain ⟨y0, y1, y2⟩ := hcell' k (by omega)
        have d0 : wr.cell? ⟨b, off + k * 3, none⟩ = _ := (hB.cell (p := ⟨b, off + k * 3, none⟩) hbl).trans x0
        have d1 : wr.cell? ⟨b, off + k * 3 + 1, none⟩ = _ := (hB.cell (p := ⟨b, off + k * 3 + 1, none⟩) hbl).trans x1
        have d2 : wr.cell? ⟨b, off + k * 3 + 2, none⟩ = _ := (hB.cell (p := ⟨b, off + k * 3 + 2, none⟩) hbl).trans x2
        have g0 : wr.cell? ⟨b', off' + k * 3, none⟩ = _ := (hB.cell (p := ⟨b', off' + k * 3, none⟩) hbl').trans y0
        have g1 : wr.cell? ⟨b', off' + k * 3 + 1, none⟩ = _ := (hB.cell (p := ⟨b', off' + k * 3 + 1, none⟩) hbl').trans y1
        have g2 : wr.cell? ⟨b', off' + k * 3 + 2, none⟩ = _ := (hB.cell (p := ⟨b', off' + k * 3 + 2, none⟩) hbl').trans y2
        clear x0 x1 x2 y0 y1 y2 hcell hcell'
        have hkI : (k : Int) < (l.length : Int) := by omega
        have hkI2 : (k : Int) < (m.length : Int) := by omega
        have hkm : k < m.length := by omega
        have hgood := fun he => hC.good hlm hk he
        have hbad : l[k] ≠ m[k] → bb = false := fun he => by rw [← HBB.out]; exact decide_eq_false (fun e => he (by subst e; rfl))
        obtain ⟨u, hu⟩ : ∃ u, l[k] = u := ⟨_, rfl⟩
        obtain ⟨v, hv⟩ : ∃ v, m[k] = v := ⟨_, rfl⟩
        rw [hu] at d0 d1 d2 hbad
        rw [hv] at g0 g1 g2 hbad
        have hgood2 : u = v → SameRel l m (k + 1) := fun e => hgood (by rw [hu, hv, e])
        have HG := Lib.hid hgood2
        have HB := Lib.hid hbad
        have hn : ∀ w' : World, (binOp .neq 49 (.agg #[.int .u8 u.k, .int .i64 u.n, .string ⟨u.s.toArray⟩]) (.agg #[.int .u8 v.k, .int .i64 v.n, .string ⟨v.s.toArray⟩])).run Try.prog w' = .ok (.bool (decide (u ≠ v))) w' := fun w' => run_neqv w' u v
        clear hgood hgood2 hbad hC hu hv hk hkm hlm hne
        by_cases huv : u = v
        · have HUV := Lib.hid huv
          rw [decide_eq_false (show ¬ u ≠ v from fun h => h huv)] at hn
          clear huv
          go_wp2_with (go_quiet (fail))
          exact ⟨⟨k + 1, by go_num, HG.out HUV.out, ⟨hB.os, hB.tape, hB.output, hB.size, hB.block⟩⟩, by simp [intOf]; omega⟩
        · rw [decide_eq_true (show u ≠ v from huv)] at hn
          obtain rfl := HB.out huv
          clear huv
          go_wp2_with (go_quiet (fail))
          go_ret
          exact ⟨rfl, ⟨hB.os, hB.tape, hB.output, hB.size, hB.block⟩⟩
      · obtain rfl : bb = true := by rw [← HBB.out]; exact decide_eq_true (hC.fin HLM.out hk)
        have hkI : ¬ (k : Int) < (l.length : Int) := by omega
        go_wp2
        go_ret
        exact ⟨rfl, hB⟩
  · have hne : ((l.length : Int) != (m.length : Int)) = true := by rw [bne_iff_ne]; omega
    have hd : decide (l = m) = false := decide_eq_false (fun e => hlm (by rw [e]))
    rw [hd]
    clear hr hs hl hlm hd
    go_enter Try.func36, Try.ntmps36
    go_wp2
    go_ret
    exact ⟨rfl, Below.refl _ _⟩
end Go.Proofs.Ytljfolepmkcjlaa

/-
  The walks of layer 1 (number) and of its reference: what they answer.
-/
namespace Go.Proofs.Ytljfolepmkcjlaa
open Go.RowKit Plain

theorem xor_zero_u64 (a : Int) (h1 : 0 ≤ a) (h2 : a < 18446744073709551616) : bits .xor .u64 a 0 = a := by
  rw [u64_xor a 0 h1 h2 (by omega) (by omega)]
  simp
  omega
theorem nat_xor_ones (a : Nat) (ha : a < 18446744073709551616) : a ^^^ 18446744073709551615 = 18446744073709551615 - a := by
  have h : (BitVec.ofNat 64 a ^^^ BitVec.allOnes 64).toNat = (~~~ (BitVec.ofNat 64 a)).toNat := by rw [BitVec.xor_allOnes]
  rw [BitVec.toNat_xor, BitVec.toNat_not, BitVec.toNat_ofNat, Nat.mod_eq_of_lt (by omega)] at h
  simpa using h
theorem xor_ones_u64 (a : Int) (h1 : 0 ≤ a) (h2 : a < 18446744073709551616) : bits .xor .u64 a 18446744073709551615 = 18446744073709551615 - a := by
  rw [u64_xor a 18446744073709551615 h1 h2 (by omega) (by omega)]
  have := nat_xor_ones a.toNat (by omega)
  rw [show (18446744073709551615 : Int).toNat = 18446744073709551615 from rfl, this]
  omega
theorem xor_zero_i64 (a : Int) (h1 : 0 ≤ a) (h2 : a ≤ 9223372036854775807) : bits .xor .i64 a 0 = a := by
  show IntKind.i64.wrap ((BitVec.ofInt 64 a ^^^ BitVec.ofInt 64 0).toNat : Int) = _
  obtain ⟨n, rfl⟩ := Int.eq_ofNat_of_zero_le h1
  rw [BitVec.toNat_xor, BitVec.ofInt_natCast, BitVec.toNat_ofNat, Nat.mod_eq_of_lt (by omega), IntKind.wrap_i64]
  simp
  omega
theorem xor_ones_i64 (a : Int) (h1 : 0 ≤ a) (h2 : a ≤ 9223372036854775807) : bits .xor .i64 a (-1) = -a - 1 := by
  show IntKind.i64.wrap ((BitVec.ofInt 64 a ^^^ BitVec.ofInt 64 (-1)).toNat : Int) = _
  obtain ⟨n, rfl⟩ := Int.eq_ofNat_of_zero_le h1
  rw [BitVec.toNat_xor, BitVec.ofInt_natCast, BitVec.toNat_ofNat, Nat.mod_eq_of_lt (by omega), show (BitVec.ofInt 64 (-1)).toNat = 18446744073709551615 from by decide, nat_xor_ones n (by omega), IntKind.wrap_i64]
  omega
theorem and_127 (n : Nat) (h : n < 18446744073709551616) : bits .and .u64 (n : Int) 127 = ((n % 128 : Nat) : Int) := by
  have e := u64_and_nat n 127 h (by omega)
  rw [show n &&& 127 = n % 128 from Nat.and_two_pow_sub_one_eq_mod n 7] at e
  exact e
theorem or_128 (m : Nat) (h : m < 256) : bits .or .u8 (m : Int) 128 = ((m % 128 + 128 : Nat) : Int) := by
  have e := u8_or_nat m 128 h (by omega)
  have h2 : ∀ m : Nat, m < 256 → m ||| 128 = m % 128 + 128 := by decide +kernel
  rw [h2 m h] at e
  exact e

set_option maxHeartbeats 400000 in
theorem fold_any (i : Int) (w : World) (h1 : -9223372036854775808 ≤ i) (h2 : i ≤ 9223372036854775807) :
    Calls Try.prog 103 #[.int .i64 i] w fun e w' => e = .returned (.int .u64 (foldI i : Nat)) ∧ w = w' := by
  go_enter Try.func103, Try.ntmps103
  go_wp2
  go_ret
  refine ⟨ret_int ?_, rfl⟩
  rw [IntKind.wrap_u64, IntKind.wrap_u64, IntKind.wrap_u64]
  unfold foldI
  by_cases h : 0 ≤ i
  · rw [show i / 9223372036854775808 % 18446744073709551616 = 0 by omega, xor_zero_u64 _ (by omega) (by omega), if_pos h]
    omega
  · rw [show i / 9223372036854775808 % 18446744073709551616 = 18446744073709551615 by omega, xor_ones_u64 _ (by omega) (by omega), if_neg h]
    omega

set_option maxHeartbeats 400000 in
theorem unfold_any (n : Nat) (w : World) (h1 : n < 18446744073709551616) :
    Calls Try.prog 66 #[.int .u64 n] w fun e w' => e = .returned (.int .i64 (unfoldN n)) ∧ w = w' := by
  go_enter Try.func66, Try.ntmps66
  go_wp2
  go_ret
  refine ⟨ret_int ?_, rfl⟩
  rw [and_one_u64 n (by omega) (by omega)]
  unfold unfoldN
  by_cases h : n % 2 = 0
  · rw [if_pos h, show (n : Int) % 2 = 0 by omega]
    rw [show wrap64 (-wrap64 0) = 0 from by rw [IntWalk.wrap64_in 0 (by omega)]; exact IntWalk.wrap64_in 0 (by omega)]
    rw [xor_zero_i64 _ (by omega) (by omega)]
    omega
  · rw [if_neg h, show (n : Int) % 2 = 1 by omega]
    rw [show wrap64 (-wrap64 1) = -1 from by rw [IntWalk.wrap64_in 1 (by omega)]; exact IntWalk.wrap64_in (-1) (by omega)]
    rw [xor_ones_i64 _ (by omega) (by omega)]
    omega

def SizeRel (n j m : Nat) : Prop := j + digs 10 m = digs 10 (n / 128) ∧ m < 18446744073709551616 ∧ j ≤ 8
theorem SizeRel.fin8 {n m : Nat} (h : SizeRel n 8 m) (hm : 0 < m) : (putN n).length = 9 := by
  obtain ⟨h1, h2, h3⟩ := h
  rw [digs_step m (by omega) h2] at h1
  have h2 := putN_length_le n
  rw [putN_length] at h2 ⊢
  split <;> (try split at h2) <;> omega
theorem SizeRel.fin0 {n j : Nat} (h : SizeRel n j 0) : (putN n).length = if n < 72057594037927936 then j + 1 else 9 := by
  obtain ⟨h1, h2, h3⟩ := h
  rw [digs_zero] at h1
  rw [putN_length]
  split <;> omega

set_option maxHeartbeats 400000 in
theorem size_any (n : Nat) (w : World) (h1 : n < 18446744073709551616) :
    Calls Try.prog 64 #[.int .u64 n] w fun e w' => e = .returned (.int .i64 ((putN n).length : Nat)) ∧ w = w' := by
  have HR : SizeRel n 0 (n / 128) := ⟨by omega, by omega, by omega⟩
  have hN : ((n : Nat) : Int) < 72057594037927936 ∨ 72057594037927936 ≤ ((n : Nat) : Int) := by omega
  go_enter Try.func64, Try.ntmps64
  clear h1
  go_wp2
  go_loop [3, 4] (fun a b => ∃ j m : Nat, j ≤ 8 ∧ a = .int .i64 ((j : Int) + 1) ∧ b = .int .u64 (m : Int) ∧ SizeRel n j m) (fun a _ => (9 - intOf a).toNat)
  case atStart => exact ⟨0, n / 128, by omega, by go_num, by go_num, HR⟩
  case round =>
    obtain ⟨j, m, hj, rfl, rfl, hD⟩ := hrel
    by_cases h0 : 0 < m
    · by_cases h9 : j < 8
      · go_wp2
        go_round
        case rel => exact ⟨j + 1, m / 128, by omega, by go_num, by go_num, by obtain ⟨a, b, c⟩ := hD; rw [digs_step m (by omega) b] at a; exact ⟨by omega, by omega, by omega⟩⟩
        case measure => simp [intOf]; omega
      · obtain rfl : j = 8 := by omega
        have hfin := hD.fin8 h0
        have HF := Lib.hid hfin
        clear hfin hD HR
        rcases hN with hN | hN
        · have hd : decide ((72057594037927936 : Int) ≤ ((n : Nat) : Int)) = false := decide_eq_false (by omega)
          clear hN
          go_wp2
          go_ret
          exact ⟨ret_int (by rw [HF.out]; rfl), rfl⟩
        · have hd : decide ((72057594037927936 : Int) ≤ ((n : Nat) : Int)) = true := decide_eq_true (by omega)
          clear hN
          go_wp2
          go_ret
          exact ⟨ret_int (by rw [HF.out]; rfl), rfl⟩
    · obtain rfl : m = 0 := by omega
      have hfin := hD.fin0
      clear hD HR h0
      rcases hN with hN | hN
      · rw [if_pos (by omega)] at hfin
        have HF := Lib.hid hfin
        clear hfin
        have hd : decide ((72057594037927936 : Int) ≤ ((n : Nat) : Int)) = false := decide_eq_false (by omega)
        clear hN
        go_wp2
        go_ret
        exact ⟨ret_int (by rw [HF.out]; omega), rfl⟩
      · rw [if_neg (by omega)] at hfin
        have HF := Lib.hid hfin
        clear hfin
        go_wp2
        go_ret
        exact ⟨ret_int (by rw [HF.out]; omega), rfl⟩
end Go.Proofs.Ytljfolepmkcjlaa

/-
  The walk of number.Put: it answers putN.
-/
namespace Go.Proofs.Ytljfolepmkcjlaa
open Go.RowKit Plain

theorem str_row {w : World} {b t n : Nat} {f : Nat → Value} (h : w.rowIs b t n f) (off cap : Nat) (l : Bs) (hl : off + l.length ≤ n)
    (hf : ∀ j (hj : j < l.length), f (off + j) = .int .u8 (l[j].toNat : Int)) :
    (convert 70 9 (.slice (some ⟨b, off, none⟩) l.length cap)).run Try.prog w = .ok (.string ⟨l.toArray⟩) w := by
  refine run_convert_bytes_back w _ _ 5 ⟨b, off, none⟩ cap l Try.underlying70 Try.underlying5 Try.underlying9 ?_
  intro j hj
  have e : (⟨b, off, none⟩ : Addr).add j = ⟨b, off + j, none⟩ := by unfold Addr.add; split <;> simp_all
  rw [e, h.cell (by omega), hf j hj]

/-- what the loop of put_small holds to: from the place q on the bytes stand that follow m's. -/
def PutRel (n B : Nat) (wr : World) (q m : Nat) : Prop :=
  ∃ (tail : Bs) (f : Nat → Value), q + tail.length = 9 ∧ 0 < tail.length ∧ hiK (digs 10 m) m ++ tail = putN n ∧ m < 128 ^ (q - 1) ∧ q ≤ 8 ∧ wr.rowIs B 94 9 f ∧ ∀ j (hj : j < tail.length), f (q + j) = .int .u8 (tail[j].toNat : Int)

theorem PutRel.start {n B : Nat} {wr : World} {f : Nat → Value} (h : n < 72057594037927936) (hr : wr.rowIs B 94 9 f) (hf : f 8 = .int .u8 ((n % 128 : Nat) : Int)) : PutRel n B wr 8 (n / 128) := by
  refine ⟨[UInt8.ofNat (n % 128)], f, rfl, by simp, ?_, by simp; omega, by omega, hr, ?_⟩
  · unfold putN; rw [if_pos h]
  · intro j hj
    simp only [List.length_singleton] at hj
    obtain rfl : j = 0 := by omega
    rw [hf]
    simp
    omega

theorem PutRel.step {n B : Nat} {wr : World} {q m : Nat} (h : PutRel n B wr (q + 1) m) (hm : 0 < m) (hq : 0 < q) (v : Int) (hv : v = ((m % 128 + 128 : Nat) : Int)) : PutRel n B (wr.setCell ⟨B, q, none⟩ (.int .u8 v)) q (m / 128) := by
  obtain ⟨tail, f, h1, h2, h3, h4, h5, h6, h7⟩ := h
  have hb : m < 18446744073709551616 := by
    have : 128 ^ (q + 1 - 1) ≤ 128 ^ 7 := Nat.pow_le_pow_right (by omega) (by omega)
    omega
  refine ⟨UInt8.ofNat (m % 128 + 128) :: tail, _, by simp; omega, by simp, ?_, ?_, by omega, h6.set q _, ?_⟩
  · rw [← h3, digs_step m (by omega) hb, hiK_succ, List.append_assoc, List.singleton_append]
  · obtain ⟨q', rfl⟩ : ∃ q', q = q' + 1 := ⟨q - 1, by omega⟩
    simp only [Nat.add_sub_cancel] at h4 ⊢
    rw [Nat.pow_succ] at h4
    omega
  · intro j hj
    cases j with
    | zero => simp [hv]; omega
    | succ j =>
      have := h7 j (by simpa using hj)
      simp only [List.getElem_cons_succ]
      rw [if_neg (by omega), ← this]
      congr 1
      omega

theorem PutRel.pos {n B : Nat} {wr : World} {q m : Nat} (h : PutRel n B wr q m) (hm : 0 < m) : 2 ≤ q := by
  obtain ⟨tail, f, h1, h2, h3, h4, h5, h6, h7⟩ := h
  rcases Nat.lt_or_ge q 2 with hq | hq
  · have : q - 1 = 0 := by omega
    rw [this] at h4
    simp at h4
    omega
  · exact hq

theorem PutRel.fin {n B : Nat} {wr : World} {q : Nat} (h : PutRel n B wr q 0) (cap : Nat) :
    (convert 70 9 (.slice (some ⟨B, q, none⟩) (9 - q) cap)).run Try.prog wr = .ok (.string ⟨(putN n).toArray⟩) wr := by
  obtain ⟨tail, f, h1, h2, h3, h4, h5, h6, h7⟩ := h
  rw [digs_zero, hiK_zero, List.nil_append] at h3
  rw [← h3, show 9 - q = tail.length by omega]
  exact str_row h6 q cap tail (by omega) h7

set_option maxHeartbeats 400000 in
theorem put_small (n : Nat) (w : World) (h1 : n < 72057594037927936) :
    Calls Try.prog 54 #[.int .u64 n] w fun e w' => e = .returned (.string ⟨(putN n).toArray⟩) ∧ Below w.heap.size w w' := by
  have hd : decide ((72057594037927936 : Int) ≤ ((n : Nat) : Int)) = false := decide_eq_false (by omega)
  have H1 := Lib.hid h1
  clear h1
  go_enter Try.func54, Try.ntmps54
  go_wp2
  go_loopw [0, 6] (fun a i wr => ∃ q m : Nat, a = .int .u64 (m : Int) ∧ i = .int .i64 (q : Int) ∧ PutRel n w.heap.size wr q m ∧ Below w.heap.size w wr) (fun _ i _ => (intOf i).toNat)
  case atStart =>
    refine ⟨8, n / 128, by go_num, rfl, PutRel.start (f := fun i => if i = 8 then .int .u8 (bits BinOp.and IntKind.u64 (↑n) 127 % 256) else .int .u8 0) H1.out ?_ ?_, (Below.refl _ _).alloc (Nat.le_refl _) _⟩
    · refine World.rowIs_alloc _ _ _ _ ?_
      intro i hi
      simp only [List.size_toArray, List.length_cons, List.length_nil] at hi
      match i, hi with
      | 0, _ => rfl
      | 1, _ => rfl
      | 2, _ => rfl
      | 3, _ => rfl
      | 4, _ => rfl
      | 5, _ => rfl
      | 6, _ => rfl
      | 7, _ => rfl
      | 8, _ => rfl
    · simp only [if_true]
      rw [and_127 n (by have := H1.out; omega)]
      congr 1
      omega
  case round =>
    obtain ⟨q, m, rfl, rfl, hP, hB⟩ := hrel
    by_cases h0 : 0 < m
    · obtain ⟨p, rfl⟩ : ∃ p, q = p + 1 := ⟨q - 1, by have := hP.pos h0; omega⟩
      have hp : 0 < p := by have := hP.pos h0; omega
      obtain ⟨tail, f, g1, g2, g3, g4, g5, g6, g7⟩ := id hP
      have hc := g6.cell (i := p) (by omega)
      have hf := g6.frozen p
      have HP := Lib.hid hP
      have hp9 : p < 9 := by omega
      clear g1 g2 g3 g4 g5 g6 g7 hP
      go_wp2
      go_roundw
      case rel => exact ⟨p, m / 128, by go_num, by go_num, HP.out.step h0 hp _ (by have := or_128 (m % 256) (by omega); rw [show (m % 256) % 128 = m % 128 by omega] at this; rw [← this]; congr 1), hB.setCell (Nat.le_refl _) _⟩
      case measure => simp [intOf]
    · obtain rfl : m = 0 := by omega
      have hc := hP.fin
      have hq : q ≤ 8 := by obtain ⟨tail, f, g1, g2, g3, g4, g5, g6, g7⟩ := hP; exact g5
      clear h0 hP
      have hq' : (q : Int) ≤ 9 := by omega
      have hq9 : ¬ 9 = q := by omega
      go_wp2
      go_ret
      exact ⟨rfl, hB⟩
/-- what the loop of put_big holds to. -/
def PutBig (n B : Nat) (wr : World) (q x : Nat) : Prop :=
  ∃ (tail : Bs) (f : Nat → Value), q + tail.length = 9 ∧ hiK q x ++ tail = putN n ∧ q ≤ 8 ∧ wr.rowIs B 94 9 f ∧ ∀ j (hj : j < tail.length), f (q + j) = .int .u8 (tail[j].toNat : Int)

theorem PutBig.start {n B : Nat} {wr : World} {f : Nat → Value} (h : 72057594037927936 ≤ n) (hr : wr.rowIs B 94 9 f) (hf : f 8 = .int .u8 ((n % 256 : Nat) : Int)) : PutBig n B wr 8 (n / 256) := by
  refine ⟨[UInt8.ofNat (n % 256)], f, rfl, ?_, by omega, hr, ?_⟩
  · unfold putN; rw [if_neg (by omega)]
  · intro j hj
    simp only [List.length_singleton] at hj
    obtain rfl : j = 0 := by omega
    rw [hf]
    simp

theorem PutBig.step {n B : Nat} {wr : World} {q m : Nat} (h : PutBig n B wr (q + 1) m) (v : Int) (hv : v = ((m % 128 + 128 : Nat) : Int)) : PutBig n B (wr.setCell ⟨B, q, none⟩ (.int .u8 v)) q (m / 128) := by
  obtain ⟨tail, f, h1, h3, h5, h6, h7⟩ := h
  refine ⟨UInt8.ofNat (m % 128 + 128) :: tail, _, by simp; omega, ?_, by omega, h6.set q _, ?_⟩
  · rw [← h3, hiK_succ, List.append_assoc, List.singleton_append]
  · intro j hj
    cases j with
    | zero => simp [hv]; omega
    | succ j =>
      have := h7 j (by simpa using hj)
      simp only [List.getElem_cons_succ]
      rw [if_neg (by omega), ← this]
      congr 1
      omega

theorem PutBig.fin {n B : Nat} {wr : World} {x : Nat} (h : PutBig n B wr 0 x) (cap : Nat) :
    (convert 70 9 (.slice (some ⟨B, 0, none⟩) 9 cap)).run Try.prog wr = .ok (.string ⟨(putN n).toArray⟩) wr := by
  obtain ⟨tail, f, h1, h3, h5, h6, h7⟩ := h
  rw [hiK_zero, List.nil_append] at h3
  have e : tail.length = 9 := by omega
  have h := str_row h6 0 cap tail (by omega) h7
  rw [e] at h
  rw [← h3]
  exact h

set_option maxHeartbeats 400000 in
theorem put_big (n : Nat) (w : World) (h1 : 72057594037927936 ≤ n) (h2 : n < 18446744073709551616) :
    Calls Try.prog 54 #[.int .u64 n] w fun e w' => e = .returned (.string ⟨(putN n).toArray⟩) ∧ Below w.heap.size w w' := by
  have hd : decide ((72057594037927936 : Int) ≤ ((n : Nat) : Int)) = true := decide_eq_true (by omega)
  have H1 := Lib.hid h1
  clear h1 h2
  go_enter Try.func54, Try.ntmps54
  go_wp2
  go_loopw [4, 5] (fun i a wr => ∃ q m : Nat, a = .int .u64 (m : Int) ∧ i = .int .i64 ((q : Int) - 1) ∧ PutBig n w.heap.size wr q m ∧ Below w.heap.size w wr) (fun i _ _ => (intOf i + 1).toNat)
  case atStart =>
    refine ⟨8, n / 256, by go_num, rfl, PutBig.start (f := fun i => if i = 8 then .int .u8 ((n : Int) % 256) else .int .u8 0) H1.out ?_ ?_, (Below.refl _ _).alloc (Nat.le_refl _) _⟩
    · refine World.rowIs_alloc _ _ _ _ ?_
      intro i hi
      simp only [List.size_toArray, List.length_cons, List.length_nil] at hi
      match i, hi with
      | 0, _ => rfl
      | 1, _ => rfl
      | 2, _ => rfl
      | 3, _ => rfl
      | 4, _ => rfl
      | 5, _ => rfl
      | 6, _ => rfl
      | 7, _ => rfl
      | 8, _ => rfl
    · simp only [if_true]
      congr 1
  case round =>
    obtain ⟨q, m, rfl, rfl, hP, hB⟩ := hrel
    rcases q with _ | p
    · have hc := hP.fin
      clear hP
      go_wp2
      go_ret
      exact ⟨rfl, hB⟩
    · obtain ⟨tail, f, g1, g3, g5, g6, g7⟩ := id hP
      have hc := g6.cell (i := p) (by omega)
      have hf := g6.frozen p
      have HP := Lib.hid hP
      have hp9 : p < 9 := by omega
      clear g1 g3 g5 g6 g7 hP
      go_wp2
      go_roundw
      case rel => exact ⟨p, m / 128, by go_num, by go_num, HP.out.step _ (by have := or_128 (m % 256) (by omega); rw [show (m % 256) % 128 = m % 128 by omega] at this; rw [← this]; congr 1), hB.setCell (Nat.le_refl _) _⟩
      case measure => simp [intOf]

/-- number.Put -/
theorem put_any (n : Nat) (w : World) (h : n < 18446744073709551616) :
    Calls Try.prog 54 #[.int .u64 n] w fun e w' => e = .returned (.string ⟨(putN n).toArray⟩) ∧ Below w.heap.size w w' := by
  rcases Nat.lt_or_ge n 72057594037927936 with h1 | h1
  · exact put_small n w h1
  · exact put_big n w h1 h
end Go.Proofs.Ytljfolepmkcjlaa

/-
  The walks of layer 1's reference: digits, Put.
-/
namespace Go.Proofs.Ytljfolepmkcjlaa
open Go.RowKit Plain
set_option maxRecDepth 100000

/-- what the loop of digits holds to: k digits are there, m is left. -/
def DigRel (n least B : Nat) (wr : World) (k m : Nat) (v : Value) : Prop :=
  m = n / 128 ^ k ∧ k ≤ max (digs 10 n) least ∧ wr.ownsRow B 5 1 v k (Lib.byteCells (dgL k n))

theorem DigRel.more {n least B : Nat} {wr : World} {k m : Nat} {v : Value} (h : DigRel n least B wr k m v) (hn : n < 18446744073709551616) (hm : 0 < m ∨ k < least) : k < max (digs 10 n) least := by
  obtain ⟨h1, h2, h3⟩ := h
  rcases hm with hm | hm
  · have := digs_le_iff n k hn
    rw [← h1] at this
    rcases Nat.lt_or_ge k (digs 10 n) with hl | hl
    · omega
    · have := this.1 hl; omega
  · omega
theorem DigRel.fin {n least B : Nat} {wr : World} {k : Nat} {v : Value} (h : DigRel n least B wr k 0 v) (hn : n < 18446744073709551616) (hk : ¬ k < least) : k = max (digs 10 n) least := by
  obtain ⟨h1, h2, h3⟩ := h
  have := (digs_le_iff n k hn).2 h1.symm
  omega
theorem DigRel.next {n least B : Nat} {wr w' : World} {k m : Nat} {v v' : Value} (h : DigRel n least B wr k m v) (hk : k < max (digs 10 n) least)
    (ho : w'.ownsRow B 5 1 v' (1 + k) (Lib.byteCells ([UInt8.ofNat (m % 128)] ++ dgL k n))) : DigRel n least B w' (k + 1) (m / 128) v' := by
  obtain ⟨h1, h2, h3⟩ := h
  refine ⟨by rw [h1, Nat.div_div_eq_div_mul, Nat.pow_succ], by omega, ?_⟩
  rw [dgL_front, ← h1, Nat.add_comm k 1]
  exact ho

/-- what both loops of Put hold to: of the K bytes l the first k have their high bits. -/
def HighRel (l : Bs) (B g cap : Nat) (wr : World) (k : Nat) : Prop :=
  wr.ownsRow B 5 1 (.slice (some ⟨g, 0, none⟩) l.length cap) l.length (Lib.byteCells (upTo k l))

theorem HighRel.cell {l : Bs} {B g cap : Nat} {wr : World} {k : Nat} (h : HighRel l B g cap wr k) (hk : k < l.length) : wr.cell? ⟨g, k, none⟩ = some (.int .u8 (l[k].toNat : Int)) := by
  have := World.ownsRow.cellAt h k (by omega)
  rw [this]
  have h2 := upTo_get k l hk
  simp [Lib.byteCells, h2]
theorem HighRel.step {l : Bs} {B g cap : Nat} {wr : World} {k : Nat} (h : HighRel l B g cap wr k) (hk : k < l.length) (hs : l[k].toNat < 128) (v : Int) (hv : v = (l[k].toNat : Int) + 128) : HighRel l B g cap (wr.setCell ⟨g, k, none⟩ (.int .u8 v)) (k + 1) := by
  have h2 := (World.ownsRow.stored h k (.int .u8 v)).1
  have e : v = ((l[k] + 128).toNat : Int) := by rw [hv, UInt8.toNat_add]; simp; omega
  rw [e, cells_bytes_set, upTo_step k l hk] at h2
  rw [e]
  exact h2

end Go.Proofs.Ytljfolepmkcjlaa

/-
  strings.Builder: what the writing methods and String do, with the frame told block by block (so that two builders can stand side by side).
-/
namespace Go.Proofs.Ytljfolepmkcjlaa
open Go.RowKit
set_option maxRecDepth 100000

/-- The block of a builder's buffer. -/
def bufOf (w : World) (b : Nat) : Option Nat :=
  match w.heap[b]? with
  | some (.cells c _ _) => (c.getD 1 undef).ownBlock
  | _ => none

/-- A builder in block b (its rows from B on) that holds the bytes l. -/
def Bd (b : Nat) (l : List UInt8) (B : Nat) (w : World) : Prop :=
  B ≤ b ∧ ∃ p v, (p = .pointer none ∨ p = .pointer (some ⟨b, 0, none⟩)) ∧ w.heap[b]? = some (.cells #[p, v] 72 (0, 0)) ∧ w.ownsRow B 5 1 v l.length (Lib.byteCells l) ∧ (l = [] → v = .slice none 0 0)

/-- Nothing but block b and its buffer's row has turned. -/
structure Touch (b : Nat) (w w' : World) : Prop where
  os : w'.os = w.os
  tape : w'.tape = w.tape
  output : w'.output = w.output
  size : w.heap.size ≤ w'.heap.size
  block : ∀ k, k < w.heap.size → k ≠ b → some k ≠ bufOf w b → w'.heap[k]? = w.heap[k]?

theorem bufOf_eq {w : World} {b : Nat} {p v : Value} {T : TypeId} {fr : Nat × Nat} (h : w.heap[b]? = some (.cells #[p, v] T fr)) : bufOf w b = v.ownBlock := by
  unfold bufOf; rw [h]; rfl

theorem heap_lt {w : World} {k : Nat} {o : Obj} (h : w.heap[k]? = some o) : k < w.heap.size := by
  rcases Nat.lt_or_ge k w.heap.size with h' | h'
  · exact h'
  · rw [Array.getElem?_eq_none h'] at h; cases h

theorem Bd.lt {b : Nat} {l : List UInt8} {B : Nat} {w : World} (h : Bd b l B w) : b < w.heap.size := by
  obtain ⟨_, p, v, _, hb, _, _⟩ := h
  exact heap_lt hb
theorem Bd.buf_lt {b : Nat} {l : List UInt8} {B : Nat} {w : World} (h : Bd b l B w) : ∀ g, bufOf w b = some g → B ≤ g ∧ g < w.heap.size ∧ g ≠ b := by
  obtain ⟨_, p, v, _, hb, ho, _⟩ := h
  intro g hg
  rw [bufOf_eq hb] at hg
  obtain ⟨h1, h2⟩ := ho.lt g hg
  refine ⟨h1, h2, ?_⟩
  rintro rfl
  exact Lib.ownBlock_ne ho hb (by decide) hg

/-- a builder stands where its block and its buffer's stand -/
theorem Bd.keep {b : Nat} {l : List UInt8} {B : Nat} {w w' : World} (h : Bd b l B w) (h1 : w'.heap[b]? = w.heap[b]?) (h2 : ∀ g, bufOf w b = some g → w'.heap[g]? = w.heap[g]?) : Bd b l B w' ∧ bufOf w' b = bufOf w b := by
  obtain ⟨hB, p, v, hp, hb, ho, hnil⟩ := h
  have e := bufOf_eq hb
  have hb' : w'.heap[b]? = some (.cells #[p, v] 72 (0, 0)) := h1.trans hb
  refine ⟨⟨hB, p, v, hp, hb', ?_, hnil⟩, by rw [bufOf_eq hb', e]⟩
  refine ⟨ho.1, ?_⟩
  rcases ho.2 with hn | ⟨g, cap, cur, rfl, a1, a2, a3⟩
  · exact .inl hn
  · exact .inr ⟨g, cap, cur, rfl, a1, (h2 g (by rw [e]; rfl)).trans a2, a3⟩
theorem Bd.below {b : Nat} {l : List UInt8} {B : Nat} {w w' : World} (h : Bd b l B w) (hb : Below w.heap.size w w') : Bd b l B w' ∧ bufOf w' b = bufOf w b :=
  h.keep (hb.block b h.lt) (fun g hg => hb.block g (h.buf_lt g hg).2.1)
theorem Bd.other {b c : Nat} {l : List UInt8} {B : Nat} {w w' : World} (h : Bd b l B w) (hne : b ≠ c) (hd : ∀ g, bufOf w b = some g → bufOf w c ≠ some g ∧ g ≠ c) (hc : ∀ g, bufOf w c = some g → g ≠ b) (ht : Touch c w w') : Bd b l B w' ∧ bufOf w' b = bufOf w b :=
  h.keep (ht.block b h.lt hne (fun e => hc b e.symm rfl)) (fun g hg => ht.block g (h.buf_lt g hg).2.1 (hd g hg).2 (fun e => (hd g hg).1 e.symm))

theorem Touch.below {b B : Nat} {l : List UInt8} {w0 w w' : World} (ht : Touch b w w') (h : Bd b l B w) (hb : Below B w0 w) : Below B w0 w' :=
  hb.trans ⟨ht.os, ht.tape, ht.output, ht.size, fun k hk => by
    have hlt : k < w.heap.size := by have := h.lt; have := h.1; omega
    refine ht.block k hlt (by have := h.1; omega) ?_
    intro e
    have := (h.buf_lt k e.symm).1
    omega⟩

/-- a fresh one -/
theorem Bd.new (w : World) (B : Nat) (hB : B ≤ w.heap.size) : Bd w.heap.size [] B (w.alloc (.cells #[.pointer none, .slice none 0 0] 72)) :=
  ⟨hB, _, _, .inl rfl, heap_alloc_new w _, World.ownsRow_nil _ _ _ _, fun _ => rfl⟩
theorem bufOf_new (w : World) : bufOf (w.alloc (.cells #[.pointer none, .slice none 0 0] 72)) w.heap.size = none := by
  rw [bufOf_eq (heap_alloc_new w _)]; rfl

theorem bd_size : (Try.prog.info? 72).map (fun i => decide (i.size ≠ 0)) = some true := by kernel_rfl
theorem bd_lies : liesAt Try.prog Try.prog.depth 72 (2 / Try.prog.cellsOf 72) 0 72 1 = true := by kernel_rfl

set_option maxHeartbeats 1000000 in
theorem copyCheck_used (b : Nat) (w : World) (h0 : w.cell? ⟨b, 0, none⟩ = some (.pointer (some ⟨b, 0, none⟩))) :
    Calls Try.prog 75 #[.pointer (some ⟨b, 0, none⟩)] w fun e w' => e = .returned (.tuple #[]) ∧ w' = w := by
  obtain ⟨j, hj, _⟩ := Option.map_eq_some_iff.1 bd_size
  go_enter Try.func75, Try.ntmps75
  go_wp2
  rw [Lib.run_neq_ptr_same w _ Try.underlying69 hj]
  go_wp2
  go_end0
  exact ⟨rfl, rfl⟩

set_option maxHeartbeats 1000000 in
theorem copyCheck_fresh (b : Nat) (w : World) (h0 : w.cell? ⟨b, 0, none⟩ = some (.pointer none)) (hsh : w.shape? b = some (72, 2)) (hfz : w.frozen? ⟨b, 0, none⟩ = false) :
    Calls Try.prog 75 #[.pointer (some ⟨b, 0, none⟩)] w fun e w' => e = .returned (.tuple #[]) ∧ w' = w.setCell ⟨b, 0, none⟩ (.pointer (some ⟨b, 0, none⟩)) := by
  obtain ⟨j, hj, hjs⟩ := Option.map_eq_some_iff.1 bd_size
  go_enter Try.func75, Try.ntmps75
  go_wp2
  rw [Lib.run_to_unsafe w ⟨b, 0, none⟩ Try.underlying69 Try.underlying103 hj (by simpa using hjs) hsh (Nat.zero_lt_succ 1)]
  simp only [Result.andThen]
  rw [Oper.upon_value]
  go_wp2
  rw [run_callFunc_extern Try.func89 (by kernel_rfl) (by kernel_rfl) (by kernel_rfl) (e := Extern.AbiNoEscape.same) (by kernel_rfl)]
  rw [Lib.run_noEscape]
  simp only [Result.andThen]
  rw [Oper.upon_value]
  go_wp2
  rw [Lib.run_from_unsafe w ⟨b, 0, none⟩ Try.underlying103 Try.underlying69 hj hsh bd_lies]
  simp only [Result.andThen]
  rw [Oper.upon_value]
  go_wp2
  go_end0
  exact ⟨rfl, rfl⟩

/-- copyCheck, whatever the builder was: behind it block b holds its own address and the buffer that it held. -/
theorem copyCheck_any (b : Nat) (l : List UInt8) (B : Nat) (w : World) (h : Bd b l B w) :
    Calls Try.prog 75 #[.pointer (some ⟨b, 0, none⟩)] w fun e w' => e = .returned (.tuple #[]) ∧ ∃ v, w'.heap[b]? = some (.cells #[.pointer (some ⟨b, 0, none⟩), v] 72 (0, 0)) ∧
      w'.ownsRow B 5 1 v l.length (Lib.byteCells l) ∧ bufOf w b = v.ownBlock ∧ w'.heap.size = w.heap.size ∧ Touch b w w' ∧ (l = [] → v = .slice none 0 0) := by
  obtain ⟨hB, p, v, hp, hb, ho, hnil⟩ := h
  have hlt := heap_lt hb
  rcases hp with rfl | rfl
  · refine (copyCheck_fresh b w (by rw [Lib.cell_of_heap hb]; rfl) (by simp [World.shape?, hb]) (Lib.frozen_of_heap hb 0)).mono ?_
    rintro e w' ⟨rfl, rfl⟩
    have hu := Lib.BuilderAt.used (T := 72) (e := 5) (B := B) (b := b) (p := .pointer none) (bs := Lib.byteCells l) ⟨hB, v, hb, by rw [Lib.byteCells_length]; exact ho, Lib.ownBlock_ne ho hb (by decide)⟩ (.pointer (some ⟨b, 0, none⟩))
    obtain ⟨_, v', h1, h2, _⟩ := hu
    rw [Lib.byteCells_length] at h2
    have hh : (w.setCell ⟨b, 0, none⟩ (.pointer (some ⟨b, 0, none⟩))).heap[b]? = some (.cells #[.pointer (some ⟨b, 0, none⟩), v] 72 (0, 0)) := by
      simp [World.setCell, Array.getElem?_modify, hb]
    have hv : v' = v := by
      rw [hh] at h1
      simp at h1
      exact h1.symm
    subst hv
    exact ⟨rfl, v', hh, h2, bufOf_eq hb, by simp [World.setCell], ⟨rfl, rfl, rfl, by simp [World.setCell], fun k _ hk _ => Below.heap_setCell _ _ _ _ hk⟩, hnil⟩
  · refine (copyCheck_used b w (by rw [Lib.cell_of_heap hb]; rfl)).mono ?_
    rintro e w' ⟨rfl, rfl⟩
    exact ⟨rfl, v, hb, ho, bufOf_eq hb, rfl, ⟨rfl, rfl, rfl, Nat.le_refl _, fun _ _ _ _ => rfl⟩, hnil⟩

/-- behind an append of a buffer and its store -/
theorem bd_put {b B : Nat} {l' : List UInt8} {w w1 w2 : World} {v v' : Value} (hB : B ≤ b) (_hlt : b < w.heap.size) (_hw1 : w.heap.size ≤ w1.heap.size) (hk1 : ∀ k, k < w.heap.size → k ≠ b → some k ≠ v.ownBlock → w2.heap[k]? = w.heap[k]?)
    (hos : w2.os = w.os) (hta : w2.tape = w.tape) (hou : w2.output = w.output) (hsz : w1.heap.size ≤ w2.heap.size)
    (hb2 : w2.heap[b]? = some (.cells #[.pointer (some ⟨b, 0, none⟩), v] 72 (0, 0))) (hown : w2.ownsRow B 5 1 v' l'.length (Lib.byteCells l'))
    (hbuf : bufOf w b = v.ownBlock) (hnil : l' = [] → v' = .slice none 0 0) (hv' : v'.ownBlock = v.ownBlock ∨ ∃ g, v'.ownBlock = some g ∧ w.heap.size ≤ g) :
    Bd b l' B (w2.setCell ⟨b, 1, none⟩ v') ∧ Touch b w (w2.setCell ⟨b, 1, none⟩ v') ∧ (bufOf (w2.setCell ⟨b, 1, none⟩ v') b = bufOf w b ∨ ∃ g, bufOf (w2.setCell ⟨b, 1, none⟩ v') b = some g ∧ w.heap.size ≤ g) := by
  have hu := Lib.BuilderAt.put (T := 72) (e := 5) (v' := v') hB hb2 (bs' := Lib.byteCells l') (by rw [Lib.byteCells_length]; exact hown) (by decide)
  obtain ⟨_, v'', h1, h2, _⟩ := hu
  rw [Lib.byteCells_length] at h2
  have hh : (w2.setCell ⟨b, 1, none⟩ v').heap[b]? = some (.cells #[.pointer (some ⟨b, 0, none⟩), v'] 72 (0, 0)) := by
    simp [World.setCell, Array.getElem?_modify, hb2]
  have hv : v'' = v' := by
    rw [hh] at h1
    simp at h1
    exact h1.symm
  subst hv
  refine ⟨⟨hB, _, v'', .inr rfl, hh, h2, hnil⟩, ⟨hos, hta, hou, by simp [World.setCell]; omega, fun k hk hne hn => ?_⟩, ?_⟩
  · rw [Below.heap_setCell _ _ _ _ hne]
    exact hk1 k hk hne (by rw [← hbuf]; exact hn)
  · rw [bufOf_eq hh, hbuf]
    exact hv'

set_option maxHeartbeats 2000000 in
theorem wbyte_any (b : Nat) (l : List UInt8) (B : Nat) (c : UInt8) (ci : Int) (hci : ci = (c.toNat : Int)) (w : World) (h : Bd b l B w) (hlen : l.length + 1 ≤ 140737488355328) :
    Calls Try.prog 86 #[.pointer (some ⟨b, 0, none⟩), .int .u8 ci] w fun e w' => e = .returned .nilIface ∧ Bd b (l ++ [c]) B w' ∧ Touch b w w' ∧ (bufOf w' b = bufOf w b ∨ ∃ g, bufOf w' b = some g ∧ w.heap.size ≤ g) := by
  have hlt0 := h.lt
  have hB := h.1
  have HC := Lib.hid (copyCheck_any b l B w h)
  have HCI := Lib.hid hci
  clear hci h
  go_enter Try.func86, Try.ntmps86
  go_wp2_with (go_at_call 75; refine HC.out.mono ?_)
  rintro e w1 ⟨rfl, v, hbk, hown, hbuf, hsz, ht, hnil⟩
  have HN := Lib.hid hnil
  clear hnil
  have c0 : w1.cell? ⟨b, 0, none⟩ = some (.pointer (some ⟨b, 0, none⟩)) := by rw [Lib.cell_of_heap hbk]; rfl
  have c1 : w1.cell? ⟨b, 1, none⟩ = some v := by rw [Lib.cell_of_heap hbk]; rfl
  have HT := Lib.hid ht
  have HB := Lib.hid hbuf
  have HS := Lib.hid hsz
  clear ht hbuf hsz HC
  go_wp2_with (at_builtin; refine app_u8 _ rfl _ _ rfl B v l.length l rfl (hown.alloc _) _ _ _ [c] rfl (Sl.lit_u8 _ _ _ HCI.out) (by simpa using hlen) (by have := HS.out; simp; omega) ?_)
  intro v' w2 hown' hgrow hown3
  have hltb : b < w1.heap.size := heap_lt hbk
  have hne := Lib.ownBlock_ne hown hbk (by decide)
  have hb2 : w2.heap[b]? = some (.cells #[.pointer (some ⟨b, 0, none⟩), v] 72 (0, 0)) := by
    rw [hgrow.block b (by simp; omega) (fun e => hne e.symm), Lib.alloc_old w1 _ b hltb]
    exact hbk
  have d0 : w2.cell? ⟨b, 0, none⟩ = some (.pointer (some ⟨b, 0, none⟩)) := by rw [Lib.cell_of_heap hb2]; rfl
  have d1 : w2.cell? ⟨b, 1, none⟩ = some v := by rw [Lib.cell_of_heap hb2]; rfl
  have f1 : w2.frozen? ⟨b, 1, none⟩ = false := Lib.frozen_of_heap hb2 1
  have hput := bd_put (l' := l ++ [c]) hB hlt0 (Nat.le_of_eq HS.out.symm) (fun k hk hkb hkv => by
      rw [hgrow.block k (by have := HS.out; simp; omega) hkv, Lib.alloc_old w1 _ k (by have := HS.out; omega)]
      exact HT.out.block k hk hkb (by rw [HB.out]; exact hkv))
    (hgrow.os.trans HT.out.os) (hgrow.tape.trans HT.out.tape) (hgrow.output.trans HT.out.output) (by have := hgrow.size; simp at this; omega) hb2
    (by simpa using hown') HB.out (fun e => by simp at e) (by
      rcases hown3 with e | e
      · exact .inl e
      · exact .inr ⟨_, e, by have := HS.out; simp; omega⟩)
  have HP := Lib.hid hput
  obtain ⟨g, cap, rfl, _⟩ := own_form hown' (by omega)
  clear hput hgrow hown' hown3 hown hne
  go_wp2
  go_ret
  exact ⟨rfl, HP.out⟩

/-- append(b, s...) at a string: the library's law, and where the new slice lies. -/
theorem run_app_str (w : World) (base : Nat) (v : Value) (l : List UInt8) (s : List UInt8) (hown : w.ownsRow base 5 1 v l.length (Lib.byteCells l))
    (hbytes : l.length + s.length ≤ 140737488355328) (hbase : base ≤ w.heap.size) (ty : TypeId) :
    ∃ v' w', (Builtin.append_ #[70, 9] ty #[v, .string ⟨s.toArray⟩]).run Try.prog w = .ok v' w' ∧ w'.ownsRow base 5 1 v' (l ++ s).length (Lib.byteCells (l ++ s)) ∧ w.grownBy w' v.ownBlock ∧
      (v'.ownBlock = v.ownBlock ∨ v'.ownBlock = some w.heap.size) ∧ (v = .slice none 0 0 → s = [] → v' = .slice none 0 0) := by
  obtain ⟨i0, hi, hz0, hz1, hz2⟩ := info_parts info_u8
  have hs : (⟨s.toArray⟩ : ByteArray).size = s.length := rfl
  obtain ⟨v', w', h1, h2, h3, h4⟩ := Lib.run_append_own_string (P := Try.prog) w base 70 9 ty 5 i0 Try.underlying70 Try.underlying9 hi hz0 hz1 hz2 v l.length _ hown ⟨s.toArray⟩ (by rw [hs]; unfold maxLen; omega) (by rw [hs]; omega) hbase
  refine ⟨v', w', h1, ?_, h3, ?_, fun e1 e2 => h4.2 ⟨e1, by rw [hs, e2]; rfl⟩⟩
  · rw [hs, Lib.strCells_eq, ← cells_bytes_append, ← List.length_append] at h2
    exact h2
  · rcases hown.2 with ⟨rfl, hl⟩ | ⟨g, cap, cur, rfl, hbg, hg, hnc, hcm, hcs, htake⟩
    · by_cases hm : s.length = 0
      · left
        have hf := Lib.run_firstCells_string (P := Try.prog) w 1 ⟨s.toArray⟩
        rw [hs, hm] at hf
        simp [Builtin.append_, run_underlying Try.underlying70, run_underlying Try.underlying9, sizeOf, typeInfo, hi, hz1, Builtin.lenOf, hs, hm, hf] at h1
        rw [← h1.1]
      · right
        have hr := run_append_nil_string (P := Try.prog) w 70 9 ty 5 i0 (.int .u8 0) Try.underlying70 Try.underlying9 hi hz0 ⟨s.toArray⟩ (by rw [hs]; omega) (by rw [hs]; omega) (by rw [hz2, hs]; omega)
        rw [hr] at h1
        injection h1 with h1 _
        rw [← h1]; rfl
    · by_cases hroom : l.length + s.length ≤ cap
      · left
        have hr := Lib.run_append_room_string (P := Try.prog) w 70 9 ty 5 i0 Try.underlying70 Try.underlying9 hi hz1 g l.length cap cur hg ⟨s.toArray⟩ hroom (by rw [hs]; omega)
        rw [hr] at h1
        injection h1 with h1 _
        rw [← h1]; rfl
      · right
        have hr := Lib.run_append_grow_string (P := Try.prog) w 70 9 ty 5 i0 (.int .u8 0) Try.underlying70 Try.underlying9 hi hz0 ⟨g, 0, none⟩ l.length cap (Lib.byteCells l) (by rw [hz1]; simpa using hown.1) (hown.cells (g := g) rfl) ⟨s.toArray⟩ (by rw [hs]; omega) (by rw [hs]; omega) (by rw [hz2, hs]; exact growslice_fits (by omega) (by omega))
        rw [hr] at h1
        injection h1 with h1 _
        rw [← h1]; rfl

theorem app_str (w : World) {ops : Array Oper} {rest : List Oper} {o : Oper} {a : Act} {Q : Exit → Act → World → Prop} (hgd : o.guard = none) (sl x : Operand)
    (ho : o.op = .call { callee := .builtin .append, args := #[sl, x], argTypes := #[70, 9] })
    (base : Nat) (v : Value) (l s : List UInt8) (hs : a.eval sl = v) (hown : w.ownsRow base 5 1 v l.length (Lib.byteCells l)) (hx : a.eval x = .string ⟨s.toArray⟩)
    (hbytes : l.length + s.length ≤ 140737488355328) (hbase : base ≤ w.heap.size)
    (h : ∀ v' w', w'.ownsRow base 5 1 v' (l ++ s).length (Lib.byteCells (l ++ s)) → w.grownBy w' v.ownBlock → (v'.ownBlock = v.ownBlock ∨ v'.ownBlock = some w.heap.size) → (v = .slice none 0 0 → s = [] → v' = .slice none 0 0) → wpList Try.prog ops Q rest (a.put o.dst v') w') :
    wpList Try.prog ops Q (o :: rest) a w := by
  refine wpList_plain hgd fun K hK => ?_
  obtain ⟨v', w', hr, h2, h3, h4, h5⟩ := run_app_str w base v l s hown hbytes hbase o.type
  unfold Oper.wp execOp
  simp only [ho, resolve, invoke, builtin, Sem.run_bind, Sem.run_pure, Result.andThen_ok, List.map_toArray, List.map_cons, List.map_nil, hs, hx, hr]
  exact hK _ _ (h v' w' h2 h3 h4 h5)

set_option maxHeartbeats 2000000 in
theorem wstr_any (b : Nat) (l : List UInt8) (B : Nat) (s : List UInt8) (w : World) (h : Bd b l B w) (hlen : l.length + s.length ≤ 140737488355328) :
    Calls Try.prog 53 #[.pointer (some ⟨b, 0, none⟩), .string ⟨s.toArray⟩] w fun e w' => e = .returned (.tuple #[.int .i64 s.length, .nilIface]) ∧ Bd b (l ++ s) B w' ∧ Touch b w w' ∧ (bufOf w' b = bufOf w b ∨ ∃ g, bufOf w' b = some g ∧ w.heap.size ≤ g) := by
  have hlt0 := h.lt
  have hB := h.1
  have HC := Lib.hid (copyCheck_any b l B w h)
  clear h
  go_enter Try.func53, Try.ntmps53
  go_wp2_with (go_at_call 75; refine HC.out.mono ?_)
  rintro e w1 ⟨rfl, v, hbk, hown, hbuf, hsz, ht, hnil⟩
  have HN := Lib.hid hnil
  clear hnil
  have c0 : w1.cell? ⟨b, 0, none⟩ = some (.pointer (some ⟨b, 0, none⟩)) := by rw [Lib.cell_of_heap hbk]; rfl
  have c1 : w1.cell? ⟨b, 1, none⟩ = some v := by rw [Lib.cell_of_heap hbk]; rfl
  have HT := Lib.hid ht
  have HB := Lib.hid hbuf
  have HS := Lib.hid hsz
  clear ht hbuf hsz HC
  go_wp2_with (at_builtin; refine app_str _ rfl _ _ rfl B v l s rfl hown rfl hlen (by have := HS.out; omega) ?_)
  intro v' w2 hown' hgrow hown3 hown4
  have hltb : b < w1.heap.size := heap_lt hbk
  have hne := Lib.ownBlock_ne hown hbk (by decide)
  have hb2 : w2.heap[b]? = some (.cells #[.pointer (some ⟨b, 0, none⟩), v] 72 (0, 0)) := by
    rw [hgrow.block b hltb (fun e => hne e.symm)]
    exact hbk
  have d0 : w2.cell? ⟨b, 0, none⟩ = some (.pointer (some ⟨b, 0, none⟩)) := by rw [Lib.cell_of_heap hb2]; rfl
  have d1 : w2.cell? ⟨b, 1, none⟩ = some v := by rw [Lib.cell_of_heap hb2]; rfl
  have f1 : w2.frozen? ⟨b, 1, none⟩ = false := Lib.frozen_of_heap hb2 1
  have hput := bd_put (l' := l ++ s) hB hlt0 (Nat.le_of_eq HS.out.symm) (fun k hk hkb hkv => by
      rw [hgrow.block k (by have := HS.out; omega) hkv]
      exact HT.out.block k hk hkb (by rw [HB.out]; exact hkv))
    (hgrow.os.trans HT.out.os) (hgrow.tape.trans HT.out.tape) (hgrow.output.trans HT.out.output) hgrow.size hb2
    (by simpa using hown') HB.out (fun e => by obtain ⟨e1, e2⟩ := List.append_eq_nil_iff.1 e; exact hown4 (HN.out e1) e2) (by
      rcases hown3 with e | e
      · exact .inl e
      · exact .inr ⟨_, e, by have := HS.out; omega⟩)
  have HP := Lib.hid hput
  obtain ⟨A, c, rfl, _⟩ := Sl.own hown'
  clear hput hgrow hown' hown3 hown4 hown hne
  go_wp2
  go_ret2
  exact ⟨rfl, HP.out⟩

/-- String at whatever the builder holds. (Behind it its buffer may be frozen: the builder is not told on.) -/
theorem Bd.is {b : Nat} {l : List UInt8} {B : Nat} {w : World} (h : Bd b l B w) : ∃ p v, w.heap[b]? = some (.cells #[p, v] 72 (0, 0)) ∧ w.ownsRow B 5 1 v l.length (Lib.byteCells l) ∧ (l = [] → v = .slice none 0 0) := by
  obtain ⟨_, p, v, _, h1, h2, h3⟩ := h
  exact ⟨p, v, h1, h2, h3⟩

theorem cellsByte : Try.prog.cellsOf 5 = 1 := by kernel_rfl

/-- what String leaves: new blocks, a draw, marks on its own buffer. -/
def Marked (b : Nat) (w w' : World) : Prop := w'.os = w.os ∧ w'.tape = w.tape ∧ w'.output = w.output ∧ w.heap.size ≤ w'.heap.size ∧ ∀ k, k < w.heap.size → some k ≠ bufOf w b → w'.heap[k]? = w.heap[k]?

set_option maxHeartbeats 2000000 in
theorem bstr_some (b : Nat) (x : UInt8) (r : List UInt8) (B : Nat) (w : World) (h : Bd b (x :: r) B w) :
    Calls Try.prog 56 #[.pointer (some ⟨b, 0, none⟩)] w fun e w' => e = .returned (.string ⟨(x :: r).toArray⟩) ∧ Marked b w w' := by
  have hbl := h.buf_lt
  obtain ⟨p, v, hbk, hown, _⟩ := h.is
  have hbuf := bufOf_eq hbk
  obtain ⟨g, cap, cur, rfl, hbg, hg, hnc, hcm, hcs, htake⟩ : ∃ g cap cur, v = .slice (some ⟨g, 0, none⟩) (x :: r).length cap ∧ B ≤ g ∧ w.heap[g]? = some (.cells cur 5 (0, 0)) ∧ (x :: r).length ≤ cap ∧ cap ≤ maxLen ∧ cur.size = cap * 1 ∧ cur.toList.take ((x :: r).length * 1) = Lib.byteCells (x :: r) := by
    rcases hown.2 with ⟨_, hz⟩ | ⟨g, cap, cur, hv, rr⟩
    · simp at hz
    · exact ⟨g, cap, cur, hv, rr⟩
  have c1 : w.drew.cell? ⟨b, 1, none⟩ = some (.slice (some ⟨g, 0, none⟩) (x :: r).length cap) := by
    have : w.drew.heap[b]? = some (.cells #[p, .slice (some ⟨g, 0, none⟩) (x :: r).length cap] 72 (0, 0)) := hbk
    rw [Lib.cell_of_heap this]; rfl
  have hSD : (Builtin.unsafeSliceData_ #[70] 97 #[.slice (some ⟨g, 0, none⟩) (x :: r).length cap]).run Try.prog w.drew = .ok (.pointer (some ⟨g, 0, none⟩)) w.drew :=
    Lib.run_unsafeSliceData_row _ _ _ _ _ _ (by simp at hnc; omega)
  have hUS : (Builtin.unsafeString_ #[97, 3] 9 #[.pointer (some ⟨g, 0, none⟩), .int .i64 (x :: r).length]).run Try.prog w.drew = .ok (.string ⟨(x :: r).toArray⟩) (w.drew.freeze ⟨g, 0, none⟩ (x :: r).length) := by
    refine Lib.run_unsafeString_row w.drew _ _ _ 5 Try.underlying97 cellsByte g cur.size (by have hg' : w.drew.heap[g]? = some (.cells cur 5 (0, 0)) := hg; simp [World.shape?, hg']) (x :: r) (by simp) (by omega) (by unfold maxLen at hcm; omega) ?_
    intro j y hy
    exact hown.cells (g := g) rfl j (.int .u8 y.toNat) (by simp only [Lib.byteCells, List.getElem?_map, hy]; rfl)
  have hM : Marked b w (w.drew.freeze ⟨g, 0, none⟩ (x :: r).length) := by
    refine ⟨by unfold World.freeze; split <;> rfl, by unfold World.freeze; split <;> rfl, by unfold World.freeze; split <;> rfl, by unfold World.freeze; split <;> simp, fun k hk hne => ?_⟩
    unfold World.freeze
    split
    · rfl
    · simp only [Array.getElem?_modify]
      rw [if_neg]
      · rfl
      · intro e
        apply hne
        rw [hbuf, ← e]
        rfl
  have HM := Lib.hid hM
  generalize hL : (x :: r) = l at *
  clear hL hM hbuf hbl hown hg hnc hcm hcs htake hbk
  go_enter Try.func56, Try.ntmps56
  go_wp2
  go_region
  all_goals (go_wp2; go_ret; exact ⟨rfl, HM.out⟩)

set_option maxHeartbeats 2000000 in
theorem bstr_none (b : Nat) (B : Nat) (w : World) (h : Bd b [] B w) :
    Calls Try.prog 56 #[.pointer (some ⟨b, 0, none⟩)] w fun e w' => e = .returned (.string ⟨#[]⟩) ∧ Marked b w w' := by
  obtain ⟨p, v, hbk, hown, hnil⟩ := h.is
  obtain rfl := hnil rfl
  have hUS : ∀ W : World, (Builtin.unsafeString_ #[97, 3] 9 #[.pointer none, .int .i64 0]).run Try.prog W = .ok (.string .empty) W := fun W => Lib.run_unsafeString_none W _ _ _ none
  have c1 : w.drew.cell? ⟨b, 1, none⟩ = some (.slice none 0 0) := by
    have : w.drew.heap[b]? = some (.cells #[p, .slice none 0 0] 72 (0, 0)) := hbk
    rw [Lib.cell_of_heap this]; rfl
  have hSD : (Builtin.unsafeSliceData_ #[70] 97 #[.slice none 0 0]).run Try.prog w.drew = .ok (.pointer none) w.drew := rfl
  clear hbk hown hnil h
  go_enter Try.func56, Try.ntmps56
  go_wp2
  go_region
  all_goals (go_wp2; go_ret; exact ⟨rfl, rfl, rfl, rfl, Nat.le_refl _, fun _ _ _ => rfl⟩)

/-- (*strings.Builder).String -/
theorem bstr_any (b : Nat) (l : List UInt8) (B : Nat) (w : World) (h : Bd b l B w) :
    Calls Try.prog 56 #[.pointer (some ⟨b, 0, none⟩)] w fun e w' => e = .returned (.string ⟨l.toArray⟩) ∧ Marked b w w' := by
  cases l with
  | nil => exact bstr_none b B w h
  | cons x r => exact bstr_some b x r B w h

theorem Marked.below {b B : Nat} {l : List UInt8} {w0 w w' : World} (hm : Marked b w w') (h : Bd b l B w) (hb : Below B w0 w) : Below B w0 w' :=
  hb.trans ⟨hm.1, hm.2.1, hm.2.2.1, hm.2.2.2.1, fun k hk => by
    have hlt : k < w.heap.size := by have := h.lt; have := h.1; omega
    refine hm.2.2.2.2 k hlt ?_
    intro e
    have := (h.buf_lt k e.symm).1
    omega⟩
theorem Bd.marked {b c : Nat} {l : List UInt8} {B : Nat} {w w' : World} (h : Bd b l B w) (hd : ∀ g, bufOf w b = some g → bufOf w c ≠ some g) (hc : ∀ g, bufOf w c = some g → g ≠ b) (hm : Marked c w w') : Bd b l B w' ∧ bufOf w' b = bufOf w b :=
  h.keep (hm.2.2.2.2 b h.lt (fun e => hc b e.symm rfl)) (fun g hg => hm.2.2.2.2 g (h.buf_lt g hg).2.1 (fun e => hd g hg e.symm))
end Go.Proofs.Ytljfolepmkcjlaa

/-
  More plain facts about records' parts.
-/
namespace Go.Proofs.Ytljfolepmkcjlaa.Plain

theorem tagsL_take (l : List Val) (k : Nat) (hk : k < l.length) : tagsL (l.take (k + 1)) = tagsL (l.take k) ++ putN (tagN l[k]) := by
  rw [List.take_succ_eq_append_getElem hk]; simp only [tagsL, List.flatMap_append, List.flatMap_cons, List.flatMap_nil, List.append_nil]
theorem bodiesL_take (l : List Val) (k : Nat) (hk : k < l.length) : bodiesL (l.take (k + 1)) = bodiesL (l.take k) ++ bodyL l[k] := by
  rw [List.take_succ_eq_append_getElem hk]; simp only [bodiesL, List.flatMap_append, List.flatMap_cons, List.flatMap_nil, List.append_nil]
theorem tagsL_take_len (l : List Val) (k : Nat) (h16 : l.length ≤ 16) : (tagsL (l.take k)).length ≤ 144 := by
  have := tagsL_length_le (l.take k)
  rw [List.length_take] at this
  omega
theorem bodiesL_take_len (l : List Val) (k : Nat) (h16 : l.length ≤ 16) (h : ∀ v ∈ l, chk v = 0) : (bodiesL (l.take k)).length ≤ 16000 := by
  have := bodiesL_length_le (l.take k) (fun v hv => h v (List.mem_of_mem_take hv))
  rw [List.length_take] at this
  omega
end Go.Proofs.Ytljfolepmkcjlaa.Plain

/-
  The walks of record.tag, body, all and of the reference's tag, All: a row's record.
-/
namespace Go.Proofs.Ytljfolepmkcjlaa
open Go.RowKit Plain
set_option maxRecDepth 100000

theorem Bd.buf_ne {b c B C : Nat} {l m : List UInt8} {w : World} (h : Bd b l B w) (k : Bd c m C w) : ∀ g, bufOf w b = some g → g ≠ c := by
  obtain ⟨p, v, hb, ho, _⟩ := h.is
  obtain ⟨q, u, hc, _, _⟩ := k.is
  intro g hg
  rw [bufOf_eq hb] at hg
  rintro rfl
  exact Lib.ownBlock_ne ho hc (by decide) hg

theorem bytes_append (a b : List UInt8) : (⟨a.toArray⟩ : ByteArray) ++ ⟨b.toArray⟩ = ⟨(a ++ b).toArray⟩ := by
  apply ByteArray.ext
  rw [ByteArray.data_append]
  simp

/-- two builders side by side -/
def TwoB (b c B : Nat) (l m : List UInt8) (w : World) : Prop := Bd b l B w ∧ Bd c m B w ∧ b ≠ c ∧ ∀ g, bufOf w b = some g → bufOf w c ≠ some g
theorem TwoB.first {b c B : Nat} {l l' m : List UInt8} {w w' : World} (h : TwoB b c B l m w) (h1 : Bd b l' B w') (ht : Touch b w w') (hb : bufOf w' b = bufOf w b ∨ ∃ g, bufOf w' b = some g ∧ w.heap.size ≤ g) : TwoB b c B l' m w' := by
  obtain ⟨a1, a2, a3, a4⟩ := h
  obtain ⟨k1, k2⟩ := a2.other a3.symm (fun g hg => ⟨fun e => a4 g e hg, a2.buf_ne a1 g hg⟩) (a1.buf_ne a2) ht
  refine ⟨h1, k1, a3, fun g hg => ?_⟩
  rw [k2]
  rcases hb with hb | ⟨g', hb, hge⟩
  · rw [hb] at hg; exact a4 g hg
  · intro e
    have := (a2.buf_lt g e).2.1
    rw [hb] at hg
    injection hg with hg
    omega
theorem TwoB.second {b c B : Nat} {l m m' : List UInt8} {w w' : World} (h : TwoB b c B l m w) (h1 : Bd c m' B w') (ht : Touch c w w') (hb : bufOf w' c = bufOf w c ∨ ∃ g, bufOf w' c = some g ∧ w.heap.size ≤ g) : TwoB b c B l m' w' := by
  obtain ⟨a1, a2, a3, a4⟩ := h
  obtain ⟨k1, k2⟩ := a1.other a3 (fun g hg => ⟨a4 g hg, a1.buf_ne a2 g hg⟩) (a2.buf_ne a1) ht
  refine ⟨k1, h1, a3, fun g hg => ?_⟩
  rw [k2] at hg
  rcases hb with hb | ⟨g', hb, hge⟩
  · rw [hb]; exact a4 g hg
  · intro e
    have := (a1.buf_lt g hg).2.1
    rw [hb] at e
    injection e with e
    omega
theorem TwoB.below {b c B : Nat} {l m : List UInt8} {w w' : World} (h : TwoB b c B l m w) (hb : Below w.heap.size w w') : TwoB b c B l m w' := by
  obtain ⟨a1, a2, a3, a4⟩ := h
  obtain ⟨k1, e1⟩ := a1.below hb
  obtain ⟨k2, e2⟩ := a2.below hb
  exact ⟨k1, k2, a3, fun g hg => by rw [e2]; rw [e1] at hg; exact a4 g hg⟩

set_option maxHeartbeats 400000 in
theorem tag_any (v : Val) (w : World) (h : chk v = 0) :
    Calls Try.prog 91 #[.agg #[.int .u8 v.k, .int .i64 v.n, .string ⟨v.s.toArray⟩]] w fun e w' => e = .returned (.int .u64 (tagN v : Nat)) ∧ Below w.heap.size w w' := by
  obtain ⟨k, n, s⟩ := v
  have hl := (chk_zero h).2.2.2
  simp only at hl
  clear h
  have hl0 : (0 : Int) ≤ (s.length : Int) := by omega
  have hl1 : (s.length : Int) ≤ 1000 := by omega
  clear hl
  by_cases h1 : k = 1
  · subst h1
    go_enter Try.func91, Try.ntmps91
    go_wp2
    go_ret
    exact ⟨by simp [tagN], (Below.refl _ w).alloc (Nat.le_refl _) _⟩
  · by_cases h2 : k = 2
    · subst h2
      go_enter Try.func91, Try.ntmps91
      go_wp2
      go_ret
      exact ⟨by simp [tagN], (Below.refl _ w).alloc (Nat.le_refl _) _⟩
    · by_cases h3 : k = 3
      · subst h3
        go_enter Try.func91, Try.ntmps91
        go_wp2
        go_ret
        exact ⟨by simp [tagN], (Below.refl _ w).alloc (Nat.le_refl _) _⟩
      · have e1 : (k == 1) = false := by simpa using h1
        have e2 : (k == 2) = false := by simpa using h2
        have e3 : (k == 3) = false := by simpa using h3
        go_enter Try.func91, Try.ntmps91
        go_wp2
        go_ret
        exact ⟨by simp [tagN, h1, h2, h3], (Below.refl _ w).alloc (Nat.le_refl _) _⟩

set_option maxHeartbeats 400000 in
theorem body_any (v : Val) (w : World) (hw : v.wf) :
    Calls Try.prog 92 #[.agg #[.int .u8 v.k, .int .i64 v.n, .string ⟨v.s.toArray⟩]] w fun e w' => e = .returned (.string ⟨(bodyL v).toArray⟩) ∧ Below w.heap.size w w' := by
  obtain ⟨k, n, s⟩ := v
  obtain ⟨_, _, w1, w2⟩ := hw
  simp only at w1 w2
  by_cases h1 : k = 1
  · subst h1
    have HF := Lib.hid (fun w' => fold_any n w' w1 w2)
    have HP := Lib.hid (fun w' => put_any (foldI n) w' (foldI_lt n w1 w2))
    clear w1 w2
    go_enter Try.func92, Try.ntmps92
    go_wp2_with (first
      | (go_at_call 103; refine (HF.out _).mono ?_; rintro e w' ⟨rfl, rfl⟩)
      | (go_at_call 54; refine (HP.out _).mono ?_; rintro e w' ⟨rfl, hb⟩))
    go_ret
    exact ⟨by simp [bodyL], ((Below.refl _ w).alloc (Nat.le_refl _) _).trans (hb.mono (B' := w.heap.size) (by simp))⟩
  · have e1 : (k == 1) = false := by simpa using h1
    clear w1 w2
    go_enter Try.func92, Try.ntmps92
    go_wp2
    go_ret
    exact ⟨by simp [bodyL, h1], (Below.refl _ w).alloc (Nat.le_refl _) _⟩

set_option maxHeartbeats 1000000 in
theorem all_any (A : Option Addr) (c : Nat) (l : List Val) (w : World) (hr : Row w A l) (h16 : l.length ≤ 16) (hk : ∀ v ∈ l, chk v = 0) (hw : ∀ v ∈ l, v.wf) :
    Calls Try.prog 77 #[.slice A l.length c] w fun e w' => e = .returned (.string ⟨(allL l).toArray⟩) ∧ Below w.heap.size w w' := by
  have hb1 := Bd.new w w.heap.size (Nat.le_refl _)
  have hb2 := Bd.new (w.alloc (.cells #[.pointer none, .slice none 0 0] 72)) w.heap.size (by simp)
  obtain ⟨hb1', hbf⟩ := hb1.below ((Below.refl _ _).alloc (Nat.le_refl _) (.cells #[.pointer none, .slice none 0 0] 72))
  have hsz : (w.alloc (.cells #[.pointer none, .slice none 0 0] 72)).heap.size = w.heap.size + 1 := by simp
  rw [hsz] at hb2
  have hT : TwoB w.heap.size (w.heap.size + 1) w.heap.size [] [] ((w.alloc (.cells #[.pointer none, .slice none 0 0] 72)).alloc (.cells #[.pointer none, .slice none 0 0] 72)) :=
    ⟨hb1', hb2, by omega, fun g hg => by rw [hbf, bufOf_new] at hg; cases hg⟩
  have HT := Lib.hid hT
  have HW0 := Lib.hid (wbyte_any w.heap.size [] w.heap.size (UInt8.ofNat l.length) ((l.length : Int)) (by rw [UInt8.toNat_ofNat']; omega) _ hT.1 (by simp))
  have h16' : (l.length : Int) ≤ 16 := by omega
  have h00 : (0 : Int) ≤ (l.length : Int) := by omega
  have HR := Lib.hid hr
  have HK := Lib.hid hk
  have HWF := Lib.hid hw
  have H16 := Lib.hid h16
  clear hb1 hb2 hb1' hbf hsz hT hr hk hw h16
  go_enter Try.func77, Try.ntmps77
  go_wp2_with (go_at_call 86; refine HW0.out.mono ?_; rintro e w1 ⟨rfl, h1, h2, h3⟩)
  have hT1 := HT.out.first h1 h2 h3
  have hB1 : Below w.heap.size w w1 := h2.below HT.out.1 (((Below.refl _ w).alloc (Nat.le_refl _) _).alloc (by simp) _)
  clear h1 h2 h3 HW0
  go_loopw [13] (fun i wr => ∃ k : Nat, i = .int .i64 (k : Int) ∧ k ≤ l.length ∧ TwoB w.heap.size (w.heap.size + 1) w.heap.size (UInt8.ofNat l.length :: tagsL (l.take k)) (bodiesL (l.take k)) wr ∧ Below w.heap.size w wr) (fun i _ => l.length - (intOf i).toNat)
  case atStart => exact ⟨0, rfl, by omega, hT1, hB1⟩
  case round =>
    obtain ⟨k, rfl, hkl, hTT, hB⟩ := hrel
    clear hT1 hB1
    have hz := hB.size
    by_cases hk : k < l.length
    · obtain ⟨b, off, rfl, hbl, hcell⟩ := HR.out.at (by omega)
      obtain ⟨c0, c1, c2⟩ := hcell k hk
      have d0 : wr.cell? ⟨b, off + k * 3, none⟩ = _ := (hB.cell (p := ⟨b, off + k * 3, none⟩) hbl).trans c0
      have d1 : wr.cell? ⟨b, off + k * 3 + 1, none⟩ = _ := (hB.cell (p := ⟨b, off + k * 3 + 1, none⟩) hbl).trans c1
      have d2 : wr.cell? ⟨b, off + k * 3 + 2, none⟩ = _ := (hB.cell (p := ⟨b, off + k * 3 + 2, none⟩) hbl).trans c2
      clear c0 c1 c2 hcell
      have hkI : (k : Int) < (l.length : Int) := by omega
      have hv0 := HK.out l[k] (List.getElem_mem hk)
      have hwf := HWF.out l[k] (List.getElem_mem hk)
      have ht := Lib.hid (tagsL_take l k hk)
      have hbd := Lib.hid (bodiesL_take l k hk)
      have htl := tagsL_take_len l k H16.out
      have hbl2 := bodiesL_take_len l k H16.out HK.out
      have hpl := putN_length_le (tagN l[k])
      have hyl := bodyL_length_le l[k] hv0
      generalize l[k] = v at *
      have HTag := Lib.hid (fun w' => tag_any v w' hv0)
      have HPut := Lib.hid (fun w' => put_any (tagN v) w' (tagN_lt v hv0))
      have HBody := Lib.hid (fun w' => body_any v w' hwf)
      have HTT := Lib.hid hTT
      have HL := Lib.hid (And.intro htl (And.intro hbl2 (And.intro hpl hyl)))
      clear hv0 hwf htl hbl2 hpl hyl hTT
      go_wp2_with (first
        | (go_at_call 91; refine (HTag.out _).mono ?_; rintro e w2 ⟨rfl, g1⟩)
        | (go_at_call 54; refine (HPut.out _).mono ?_; rintro e w3 ⟨rfl, g2⟩))
      have hs1 : wr.heap.size + 1 ≤ w2.heap.size := by have := g1.size; simpa using this
      have g12 : Below (wr.heap.size + 1) (wr.alloc (.cells #[.int .u8 v.k, .int .i64 v.n, .string ⟨v.s.toArray⟩] 49)) w3 := (g1.mono (by simp)).trans (g2.mono hs1)
      have hb3 : Below wr.heap.size wr w3 := ((Below.refl _ wr).alloc (Nat.le_refl _) _).trans (g12.mono (by omega))
      have hT3 := HTT.out.below hb3
      have hbuf3 := (HTT.out.1.below hb3).2
      have hx3 : w3.heap[wr.heap.size]? = some (.cells #[.int .u8 v.k, .int .i64 v.n, .string ⟨v.s.toArray⟩] 49 (0, 0)) := (g12.block _ (by omega)).trans (heap_alloc_new wr _)
      have hlt3 : wr.heap.size < w3.heap.size := by have := g12.size; simp at this; omega
      have hbl1 := HTT.out.1.buf_lt
      have hne1 : wr.heap.size ≠ w.heap.size := by have := HTT.out.1.lt; omega
      clear g1 g2 g12 d0 d1 d2
      refine (wstr_any w.heap.size _ w.heap.size _ _ hT3.1 (by have := HL.out; simp; omega)).mono ?_
      rintro e w4 ⟨rfl, k1, k2, k3⟩
      have hT4 := hT3.first k1 k2 k3
      have hx4 : w4.heap[wr.heap.size]? = some (.cells #[.int .u8 v.k, .int .i64 v.n, .string ⟨v.s.toArray⟩] 49 (0, 0)) := (k2.block _ hlt3 hne1 (fun e => by
        rw [hbuf3] at e
        have := (hbl1 _ e.symm).2.1
        omega)).trans hx3
      have hb4 : Below w.heap.size w w4 := k2.below hT3.1 (hB.trans (hb3.mono hz))
      have f0 : w4.cell? ⟨wr.heap.size, 0, none⟩ = some (.int .u8 v.k) := by rw [Lib.cell_of_heap hx4]; rfl
      have f1 : w4.cell? ⟨wr.heap.size, 1, none⟩ = some (.int .i64 v.n) := by rw [Lib.cell_of_heap hx4]; rfl
      have f2 : w4.cell? ⟨wr.heap.size, 2, none⟩ = some (.string ⟨v.s.toArray⟩) := by rw [Lib.cell_of_heap hx4]; rfl
      have HT4 := Lib.hid hT4
      have HB4 := Lib.hid hb4
      clear hT3 hbuf3 hx3 hlt3 hbl1 hne1 k1 k2 k3 hx4 hT4 hb4 hb3
      go_wp2_with (go_at_call 92; refine (HBody.out _).mono ?_; rintro e w5 ⟨rfl, g3⟩)
      have hT5 := HT4.out.below g3
      have hb5 : Below w.heap.size w w5 := HB4.out.trans (g3.mono HB4.out.size)
      refine (wstr_any (w.heap.size + 1) _ w.heap.size _ _ hT5.2.1 (by have := HL.out; simp; omega)).mono ?_
      rintro e w6 ⟨rfl, k1, k2, k3⟩
      have hT6 := hT5.second k1 k2 k3
      have hb6 : Below w.heap.size w w6 := k2.below hT5.2.1 hb5
      have HT6 := Lib.hid hT6
      have HB6 := Lib.hid hb6
      clear hT5 hb5 g3 k1 k2 k3 hT6 hb6 f0 f1 f2
      go_wp2
      go_roundw
      case rel => exact ⟨k + 1, by go_num, by omega, by rw [ht.out, hbd.out]; exact HT6.out, HB6.out⟩
      case measure => simp [intOf]; omega
    · have hkI : ¬ (k : Int) < (l.length : Int) := by omega
      have hkn : k = l.length := by omega
      have HKN := Lib.hid hkn
      have hT := hTT
      rw [hkn, List.take_length] at hT
      have HT := Lib.hid hT
      clear hTT hkn hk hT
      go_wp2_with fail
      refine (bstr_any _ _ _ _ HT.out.1).mono ?_
      rintro e w2 ⟨rfl, m1⟩
      obtain ⟨a1, a2, a3, a4⟩ := HT.out
      obtain ⟨k1, k2⟩ := a2.marked (fun g hg e => a4 g e hg) (a1.buf_ne a2) m1
      have hb2 := m1.below a1 hB
      have HK1 := Lib.hid k1
      have HB2 := Lib.hid hb2
      clear a1 a2 a3 a4 k1 k2 hb2 m1
      go_wp2_with fail
      refine (bstr_any _ _ _ _ HK1.out).mono ?_
      rintro e w3 ⟨rfl, m2⟩
      have hb3 := m2.below HK1.out HB2.out
      clear m2
      have ht1 : (tagsL l).length ≤ 144 := by have := tagsL_take_len l l.length H16.out; rwa [List.take_length] at this
      have ht2 : (bodiesL l).length ≤ 16000 := by have := bodiesL_take_len l l.length H16.out HK.out; rwa [List.take_length] at this
      go_wp2
      go_ret
      refine ⟨?_, hb3⟩
      simp only [allL, ← List.cons_append]
      rw [← bytes_append]
      rfl
end Go.Proofs.Ytljfolepmkcjlaa

/-
  The walk of the reference's All: a row's record.
-/
namespace Go.Proofs.Ytljfolepmkcjlaa
open Go.RowKit Plain
set_option maxRecDepth 100000

end Go.Proofs.Ytljfolepmkcjlaa

/-
  The walk of record.Put over any row.
-/
namespace Go.Proofs.Ytljfolepmkcjlaa
open Go.RowKit Plain
set_option maxRecDepth 100000

theorem ret_si {a : List UInt8} {b : Int} {p : List UInt8 × Int} (h : p = (a, b)) : Ending.returned (.tuple #[.string ⟨a.toArray⟩, .int .i64 b]) = .returned (.tuple #[.string ⟨p.1.toArray⟩, .int .i64 p.2]) := by rw [h]

theorem putRow_bad {l : List Val} (h : chkRow l ≠ 0) : putRow l = ([], chkRow l) := by unfold putRow; rw [if_pos h]
theorem putRow_long {l : List Val} (h : chkRow l = 0) (h2 : 4000 < (allL l).length) : putRow l = ([], 3) := by unfold putRow; rw [if_neg (by simp [h]), if_pos h2]
theorem putRow_good {l : List Val} (h : chkRow l = 0) (h2 : ¬ 4000 < (allL l).length) : putRow l = (allL l, 0) := by unfold putRow; rw [if_neg (by simp [h]), if_neg (by simpa using h2)]

set_option maxHeartbeats 400000 in
theorem put09_any (A : Option Addr) (c : Nat) (l : List Val) (w : World) (hr : Row w A l) (hl : l.length ≤ 65536) (hw : ∀ v ∈ l, v.wf) :
    Calls Try.prog 55 #[.slice A l.length c] w fun e w' => e = .returned (.tuple #[.string ⟨(putRow l).1.toArray⟩, .int .i64 (putRow l).2]) ∧ Below w.heap.size w w' := by
  have HC := Lib.hid (crow_any A c l w hr hl)
  by_cases h0 : chkRow l = 0
  · obtain ⟨g1, g2⟩ := chkRow_zero h0
    have HA := Lib.hid (fun (w' : World) (hr' : Row w' A l) => all_any A c l w' hr' g1 g2 hw)
    have hall : (allL l).length ≤ 16200 := by
      have := tagsL_length_le l; have := bodiesL_length_le l g2
      simp [allL]; omega
    have HR := Lib.hid hr
    have h0' := h0
    rw [h0] at HC
    have H0 := Lib.hid h0
    clear h0 h0' g1 g2 hw hr hl
    by_cases h4 : 4000 < (allL l).length
    · have HF := Lib.hid (putRow_long H0.out h4)
      generalize allL l = q at *
      have h4' : (4000 : Int) < (q.length : Int) := by omega
      have hq : (q.length : Int) ≤ 16200 := by omega
      clear h4 hall
      go_enter Try.func55, Try.ntmps55
      go_wp2_with (first
        | (go_at_call 76; refine HC.out.mono ?_; rintro e w1 ⟨rfl, b1⟩)
        | (go_at_call 77; refine (HA.out _ (HR.out.below b1 (Nat.le_refl _))).mono ?_; rintro e w2 ⟨rfl, b2⟩))
      go_ret2
      exact ⟨ret_si HF.out, b1.trans (b2.mono b1.size)⟩
    · have HF := Lib.hid (putRow_good H0.out h4)
      generalize allL l = q at *
      have h4' : (q.length : Int) ≤ 4000 := by omega
      have hq0 : (0 : Int) ≤ (q.length : Int) := by omega
      clear h4 hall
      go_enter Try.func55, Try.ntmps55
      go_wp2_with (first
        | (go_at_call 76; refine HC.out.mono ?_; rintro e w1 ⟨rfl, b1⟩)
        | (go_at_call 77; refine (HA.out _ (HR.out.below b1 (Nat.le_refl _))).mono ?_; rintro e w2 ⟨rfl, b2⟩))
      go_ret2
      exact ⟨ret_si HF.out, b1.trans (b2.mono b1.size)⟩
  · have HF := Lib.hid (putRow_bad h0)
    have hne : (chkRow l != 0) = true := by rw [bne_iff_ne]; exact h0
    generalize chkRow l = q at *
    clear h0 hr hl hw
    go_enter Try.func55, Try.ntmps55
    go_wp2_with (go_at_call 76; refine HC.out.mono ?_; rintro e w1 ⟨rfl, b1⟩)
    go_ret2
    exact ⟨ret_si HF.out, b1⟩

end Go.Proofs.Ytljfolepmkcjlaa

/-
  The walks of number.Take and of its reference: they answer takeN.
-/
namespace Go.Proofs.Ytljfolepmkcjlaa
open Go.RowKit Plain
set_option maxRecDepth 100000

/-- what the loop of Take holds to: k bytes have been gone through, all with their high bits. -/
def TakeRel (l : Bs) (k m : Nat) : Prop :=
  k ≤ 8 ∧ k ≤ l.length ∧ scan 0 0 l = scan k m (l.drop k) ∧ m < 128 ^ k ∧ ∀ (h : k - 1 < l.length), 0 < k → 128 ≤ (l[k - 1]).toNat

theorem TakeRel.start (l : Bs) : TakeRel l 0 0 := ⟨by omega, by omega, by simp, by simp, fun _ h => absurd h (by omega)⟩
theorem TakeRel.next {l : Bs} {k m : Nat} (h : TakeRel l k m) (hk : k < l.length) (h8 : k ≠ 8) (hb : 128 ≤ (l[k]).toNat) : TakeRel l (k + 1) (m * 128 + ((l[k]).toNat - 128)) := by
  obtain ⟨h1, h2, h3, h4, h5⟩ := h
  refine ⟨by omega, by omega, ?_, ?_, fun _ _ => hb⟩
  · rw [h3, List.drop_eq_getElem_cons hk, scan, if_neg h8, if_neg (by omega)]
  · have := (l[k]).toNat_lt
    rw [Nat.pow_succ]; omega
theorem TakeRel.end8 {l : Bs} {m : Nat} (h : TakeRel l 8 m) (hk : 8 < l.length) : scan 0 0 l = (9, m * 256 + (l[8]).toNat, true) := by
  obtain ⟨h1, h2, h3, h4, h5⟩ := h
  rw [h3, List.drop_eq_getElem_cons hk, scan, if_pos rfl]
theorem TakeRel.endc {l : Bs} {k m : Nat} (h : TakeRel l k m) (hk : k < l.length) (h8 : k ≠ 8) (hb : (l[k]).toNat < 128) : scan 0 0 l = (k + 1, m * 128 + (l[k]).toNat, true) := by
  obtain ⟨h1, h2, h3, h4, h5⟩ := h
  rw [h3, List.drop_eq_getElem_cons hk, scan, if_neg h8, if_pos hb]
theorem TakeRel.endl {l : Bs} {k m : Nat} (h : TakeRel l k m) (hk : k = l.length) : takeN l = (0, 0, 10) := by
  obtain ⟨h1, h2, h3, h4, h5⟩ := h
  subst hk
  rw [List.drop_length] at h3
  unfold takeN
  rw [h3]
  simp [scan]
theorem TakeRel.bound {l : Bs} {k m : Nat} (h : TakeRel l k m) : m < 72057594037927936 := by
  obtain ⟨h1, h2, h3, h4, h5⟩ := h
  have : 128 ^ k ≤ 128 ^ 8 := Nat.pow_le_pow_right (by omega) h1
  omega
theorem takeN_of_scan {l : Bs} {k n : Nat} (h : scan 0 0 l = (k, n, true)) : takeN l = if (putN n).length = k then (n, k, 0) else (0, 0, 11) := by
  unfold takeN
  rw [h]
  simp

theorem ret3 {a b c a' b' c' : Int} (h : (a', b', c') = (a, b, c)) : Ending.returned (.tuple #[.int .u64 a, .int .i64 b, .int .i64 c]) = .returned (.tuple #[.int .u64 a', .int .i64 b', .int .i64 c']) := by
  simp only [Prod.mk.injEq] at h
  obtain ⟨rfl, rfl, rfl⟩ := h
  rfl
theorem takeN_case {l : Bs} {k n : Nat} (h : scan 0 0 l = (k, n, true)) : ((putN n).length = k ∧ takeN l = (n, k, 0)) ∨ ((putN n).length ≠ k ∧ takeN l = (0, 0, 11)) := by
  rw [takeN_of_scan h]
  by_cases hk : (putN n).length = k
  · exact .inl ⟨hk, by rw [if_pos hk]⟩
  · exact .inr ⟨hk, by rw [if_neg hk]⟩

theorem or_join (m c s : Nat) (p : Int) (hp : p = ((m * 2 ^ s : Nat) : Int)) (hm : m * 2 ^ s + c < 18446744073709551616) (hc : c < 2 ^ s) : bits .or .u64 p (c : Int) = ((m * 2 ^ s + c : Nat) : Int) := by
  rw [hp, u64_or_nat _ _ (by omega) (by omega), nat_join s _ _ (by simp) hc]
theorem and_127_u8 (c : Nat) (h : c < 256) (h2 : 128 ≤ c) : bits .and .u8 (c : Int) 127 = ((c - 128 : Nat) : Int) := by
  have e := u8_and_nat c 127 h (by omega)
  rw [show c &&& 127 = c % 128 from Nat.and_two_pow_sub_one_eq_mod c 7, show c % 128 = c - 128 by omega] at e
  exact e

set_option maxHeartbeats 400000 in
theorem take_any (l : Bs) (w : World) (hl : l.length ≤ 2000000) :
    Calls Try.prog 44 #[.string ⟨l.toArray⟩] w fun e w' => e = .returned (.tuple #[.int .u64 ((takeN l).1 : Nat), .int .i64 ((takeN l).2.1 : Nat), .int .i64 ((takeN l).2.2 : Nat)]) ∧ Below w.heap.size w w' := by
  by_cases h9 : 9 < l.length
  · obtain ⟨cap, W1, hcv, hB, hc, hz⟩ := run_bytes w (l.take 9)
    have e9 : (l.take 9).length = 9 := by rw [List.length_take]; omega
    have ex : (⟨l.toArray⟩ : ByteArray).extract 0 9 = ⟨(l.take 9).toArray⟩ := extract_bytes l 0 9
    rw [e9, ← ex] at hcv
    clear ex
    have hc' : ∀ k (hk : k < l.length), k < 9 → W1.cell? ⟨w.heap.size, k, none⟩ = some (.int .u8 ((l[k]).toNat : Int)) := fun k hk hk9 => by
      have := hc k (by omega)
      rwa [List.getElem_take] at this
    have h9' : (9 : Int) < (l.length : Int) := by omega
    have HC := Lib.hid hc'
    have HB := Lib.hid hB
    clear hc hc' hB hz e9
    go_enter Try.func44, Try.ntmps44
    go_wp2
    go_step3
    go_wp2
    go_step3
    go_wp2
    go_loop [5, 6, 16] (fun a b i => ∃ k m : Nat, a = .int .u64 (m : Int) ∧ b = .int .i64 (k : Int) ∧ i = .int .i64 (k : Int) ∧ TakeRel l k m) (fun _ _ i => 9 - (intOf i).toNat)
    case atStart => exact ⟨0, 0, rfl, rfl, rfl, TakeRel.start l⟩
    case round =>
      obtain ⟨k, m, rfl, rfl, rfl, hR⟩ := hrel
      by_cases hk : k < l.length
      · have hcell := HC.out k hk (by have := hR.1; omega)
        have hb256 := (l[k]).toNat_lt
        have hmb := hR.bound
        by_cases h8 : k = 8
        · subst h8
          have hs := hR.end8 hk
          generalize hx : (l[8]).toNat = x at *
          have ho := or_join m x 8 (IntKind.u64.wrap ((m : Int) * 256)) (by rw [IntKind.wrap_u64]; omega) (by omega) (by omega)
          have hbd : m * 2 ^ 8 + x < 18446744073709551616 := by omega
          have HT := takeN_case hs
          generalize hN : m * 2 ^ 8 + x = N at *
          have hsz := Lib.hid (fun w' => size_any N w' hbd)
          clear hR hs hmb hx hN hbd
          rcases HT with ⟨ht1, ht2⟩ | ⟨ht1, ht2⟩
          · have e1 : ((((putN N).length : Nat) : Int) != 9) = false := by rw [ht1]; rfl
            have HT := Lib.hid ht2
            clear ht1 ht2
            go_wp2_with (go_at_call 64; refine (hsz.out _).mono ?_; rintro e w' ⟨rfl, rfl⟩)
            rw [Exit.noGoto_ret]
            go_ret3
            exact ⟨ret3 (by rw [HT.out]; rfl), HB.out⟩
          · have e1 : ((((putN N).length : Nat) : Int) != 9) = true := by rw [bne_iff_ne]; omega
            have HT := Lib.hid ht2
            clear ht1 ht2
            go_wp2_with (go_at_call 64; refine (hsz.out _).mono ?_; rintro e w' ⟨rfl, rfl⟩)
            rw [Exit.noGoto_ret]
            go_ret3
            exact ⟨ret3 (by rw [HT.out]; rfl), HB.out⟩
        · by_cases hb : (l[k]).toNat < 128
          · have hs := hR.endc hk h8 hb
            generalize hx : (l[k]).toNat = x at *
            have ho := or_join m x 7 (IntKind.u64.wrap ((m : Int) * 128)) (by rw [IntKind.wrap_u64]; omega) (by omega) (by omega)
            have hbd : m * 2 ^ 7 + x < 18446744073709551616 := by omega
            have HT := takeN_case hs
            have hk7 : k ≤ 7 := by have := hR.1; omega
            have h8' : ((k : Int) + 1 == 9) = false := beq_eq_false_iff_ne.2 (by omega)
            have h00 : ((k : Int) + 1 == 0) = false := beq_eq_false_iff_ne.2 (by omega)
            generalize hN : m * 2 ^ 7 + x = N at *
            have hsz := Lib.hid (fun w' => size_any N w' hbd)
            have HX := Lib.hid hx
            clear hR hs hmb hN hbd h8 hx
            have hbI : (x : Int) < 128 := by omega
            have hb0 : (0 : Int) ≤ (x : Int) := by omega
            obtain ⟨xi, hxi⟩ : ∃ xi : Int, (x : Int) = xi := ⟨_, rfl⟩
            rw [hxi] at hcell ho hbI hb0
            have hidx : ∀ w' : World, (Instr.index 9 (.string ⟨l.toArray⟩) (.int .i64 (k : Int))).run Try.prog w' = .ok (.int .u8 xi) w' := fun w' => by rw [run_index_bytes w' l k hk, HX.out, hxi]
            clear hb hb256 hxi HX
            rcases HT with ⟨ht1, ht2⟩ | ⟨ht1, ht2⟩
            · have e1 : ((((putN N).length : Nat) : Int) != (k : Int) + 1) = false := by rw [ht1]; simp
              have HT := Lib.hid ht2
              clear ht1 ht2
              go_wp2_with (go_at_call 64; refine (hsz.out _).mono ?_; rintro e w' ⟨rfl, rfl⟩)
              rw [Exit.noGoto_ret]
              go_ret3
              exact ⟨ret3 (by rw [HT.out]; rfl), HB.out⟩
            · have e1 : ((((putN N).length : Nat) : Int) != (k : Int) + 1) = true := by rw [bne_iff_ne]; omega
              have HT := Lib.hid ht2
              clear ht1 ht2
              go_wp2_with (go_at_call 64; refine (hsz.out _).mono ?_; rintro e w' ⟨rfl, rfl⟩)
              rw [Exit.noGoto_ret]
              go_ret3
              exact ⟨ret3 (by rw [HT.out]; rfl), HB.out⟩
          · have hn := hR.next hk h8 (by omega)
            generalize hx : (l[k]).toNat = x at *
            have ha := and_127_u8 x (by omega) (by omega)
            have ho := or_join m (x - 128) 7 (IntKind.u64.wrap ((m : Int) * 128)) (by rw [IntKind.wrap_u64]; omega) (by omega) (by omega)
            have hk7 : k ≤ 7 := by have := hR.1; omega
            have h8' : ((k : Int) + 1 == 9) = false := beq_eq_false_iff_ne.2 (by omega)
            have hbI : (128 : Int) ≤ (x : Int) := by omega
            have hbd : decide ((x : Int) < 128) = false := decide_eq_false (by omega)
            generalize hy : x - 128 = y at *
            obtain ⟨xi, hxi⟩ : ∃ xi : Int, (x : Int) = xi := ⟨_, rfl⟩
            obtain ⟨yi, hyi⟩ : ∃ yi : Int, (y : Int) = yi := ⟨_, rfl⟩
            have hy0 : 0 ≤ yi := by omega
            have hy1 : yi < 128 := by omega
            rw [hxi] at hcell ha hbI hbd
            rw [hyi] at ha ho
            have HN := Lib.hid hn
            clear hR hn hmb h8 hb hb256 hx hxi hyi hy hbI
            go_wp2
            go_round
            case rel => exact ⟨k + 1, m * 128 + y, by go_num, by go_num, by go_num, HN.out⟩
            case measure => simp [intOf]; omega
      · exfalso
        have := hR.1
        omega
  · obtain ⟨cap, W1, hcv, hB, hc, hz⟩ := run_bytes w l
    have ex : (⟨l.toArray⟩ : ByteArray).extract 0 l.length = ⟨l.toArray⟩ := by rw [extract_bytes]; simp
    have hcv2 := hcv
    rw [← ex] at hcv2
    clear ex
    have h9' : (l.length : Int) ≤ 9 := by omega
    have hc' := hc
    have HC := Lib.hid hc'
    have HB := Lib.hid hB
    clear hc hc' hB hz
    go_enter Try.func44, Try.ntmps44
    go_wp2
    go_step3
    go_wp2
    go_step3
    go_wp2
    go_loop [5, 6, 16] (fun a b i => ∃ k m : Nat, a = .int .u64 (m : Int) ∧ b = .int .i64 (k : Int) ∧ i = .int .i64 (k : Int) ∧ TakeRel l k m) (fun _ _ i => 9 - (intOf i).toNat)
    case atStart => exact ⟨0, 0, rfl, rfl, rfl, TakeRel.start l⟩
    case round =>
      obtain ⟨k, m, rfl, rfl, rfl, hR⟩ := hrel
      by_cases hk : k < l.length
      · have hcell := HC.out k hk
        have hb256 := (l[k]).toNat_lt
        have hmb := hR.bound
        by_cases h8 : k = 8
        · subst h8
          have hs := hR.end8 hk
          generalize hx : (l[8]).toNat = x at *
          have ho := or_join m x 8 (IntKind.u64.wrap ((m : Int) * 256)) (by rw [IntKind.wrap_u64]; omega) (by omega) (by omega)
          have hbd : m * 2 ^ 8 + x < 18446744073709551616 := by omega
          have HT := takeN_case hs
          generalize hN : m * 2 ^ 8 + x = N at *
          have hsz := Lib.hid (fun w' => size_any N w' hbd)
          clear hR hs hmb hx hN hbd
          rcases HT with ⟨ht1, ht2⟩ | ⟨ht1, ht2⟩
          · have e1 : ((((putN N).length : Nat) : Int) != 9) = false := by rw [ht1]; rfl
            have HT := Lib.hid ht2
            clear ht1 ht2
            go_wp2_with (go_at_call 64; refine (hsz.out _).mono ?_; rintro e w' ⟨rfl, rfl⟩)
            rw [Exit.noGoto_ret]
            go_ret3
            exact ⟨ret3 (by rw [HT.out]; rfl), HB.out⟩
          · have e1 : ((((putN N).length : Nat) : Int) != 9) = true := by rw [bne_iff_ne]; omega
            have HT := Lib.hid ht2
            clear ht1 ht2
            go_wp2_with (go_at_call 64; refine (hsz.out _).mono ?_; rintro e w' ⟨rfl, rfl⟩)
            rw [Exit.noGoto_ret]
            go_ret3
            exact ⟨ret3 (by rw [HT.out]; rfl), HB.out⟩
        · by_cases hb : (l[k]).toNat < 128
          · have hs := hR.endc hk h8 hb
            generalize hx : (l[k]).toNat = x at *
            have ho := or_join m x 7 (IntKind.u64.wrap ((m : Int) * 128)) (by rw [IntKind.wrap_u64]; omega) (by omega) (by omega)
            have hbd : m * 2 ^ 7 + x < 18446744073709551616 := by omega
            have HT := takeN_case hs
            have hk7 : k ≤ 7 := by have := hR.1; omega
            have h8' : ((k : Int) + 1 == 9) = false := beq_eq_false_iff_ne.2 (by omega)
            have h00 : ((k : Int) + 1 == 0) = false := beq_eq_false_iff_ne.2 (by omega)
            generalize hN : m * 2 ^ 7 + x = N at *
            have hsz := Lib.hid (fun w' => size_any N w' hbd)
            have HX := Lib.hid hx
            clear hR hs hmb hN hbd h8 hx
            have hbI : (x : Int) < 128 := by omega
            have hb0 : (0 : Int) ≤ (x : Int) := by omega
            obtain ⟨xi, hxi⟩ : ∃ xi : Int, (x : Int) = xi := ⟨_, rfl⟩
            rw [hxi] at hcell ho hbI hb0
            have hidx : ∀ w' : World, (Instr.index 9 (.string ⟨l.toArray⟩) (.int .i64 (k : Int))).run Try.prog w' = .ok (.int .u8 xi) w' := fun w' => by rw [run_index_bytes w' l k hk, HX.out, hxi]
            clear hb hb256 hxi HX
            rcases HT with ⟨ht1, ht2⟩ | ⟨ht1, ht2⟩
            · have e1 : ((((putN N).length : Nat) : Int) != (k : Int) + 1) = false := by rw [ht1]; simp
              have HT := Lib.hid ht2
              clear ht1 ht2
              go_wp2_with (go_at_call 64; refine (hsz.out _).mono ?_; rintro e w' ⟨rfl, rfl⟩)
              rw [Exit.noGoto_ret]
              go_ret3
              exact ⟨ret3 (by rw [HT.out]; rfl), HB.out⟩
            · have e1 : ((((putN N).length : Nat) : Int) != (k : Int) + 1) = true := by rw [bne_iff_ne]; omega
              have HT := Lib.hid ht2
              clear ht1 ht2
              go_wp2_with (go_at_call 64; refine (hsz.out _).mono ?_; rintro e w' ⟨rfl, rfl⟩)
              rw [Exit.noGoto_ret]
              go_ret3
              exact ⟨ret3 (by rw [HT.out]; rfl), HB.out⟩
          · have hn := hR.next hk h8 (by omega)
            generalize hx : (l[k]).toNat = x at *
            have ha := and_127_u8 x (by omega) (by omega)
            have ho := or_join m (x - 128) 7 (IntKind.u64.wrap ((m : Int) * 128)) (by rw [IntKind.wrap_u64]; omega) (by omega) (by omega)
            have hk7 : k ≤ 7 := by have := hR.1; omega
            have h8' : ((k : Int) + 1 == 9) = false := beq_eq_false_iff_ne.2 (by omega)
            have hbI : (128 : Int) ≤ (x : Int) := by omega
            have hbd : decide ((x : Int) < 128) = false := decide_eq_false (by omega)
            generalize hy : x - 128 = y at *
            obtain ⟨xi, hxi⟩ : ∃ xi : Int, (x : Int) = xi := ⟨_, rfl⟩
            obtain ⟨yi, hyi⟩ : ∃ yi : Int, (y : Int) = yi := ⟨_, rfl⟩
            have hy0 : 0 ≤ yi := by omega
            have hy1 : yi < 128 := by omega
            rw [hxi] at hcell ha hbI hbd
            rw [hyi] at ha ho
            have HN := Lib.hid hn
            clear hR hn hmb h8 hb hb256 hx hxi hyi hy hbI
            go_wp2
            go_round
            case rel => exact ⟨k + 1, m * 128 + y, by go_num, by go_num, by go_num, HN.out⟩
            case measure => simp [intOf]; omega
      · have hkl : k = l.length := by have := hR.2.1; omega
        have HF := Lib.hid (hR.endl hkl)
        rcases k with _ | j
        · have hl0 : (l.length : Int) ≤ 0 := by omega
          clear hR hkl hk h9 h9' hl
          go_wp2
          try rw [Exit.noGoto_ret]
          go_ret3
          exact ⟨ret3 (by rw [HF.out]; rfl), HB.out⟩
        · have hj : j < l.length := by omega
          have hj8 : j ≤ 7 := by have := hR.1; omega
          have hlast := hR.2.2.2.2 (by simpa using hj) (by omega)
          simp only [Nat.add_sub_cancel] at hlast
          obtain ⟨xi, hxi⟩ : ∃ xi : Int, ((l[j]).toNat : Int) = xi := ⟨_, rfl⟩
          have hx128 : 128 ≤ xi := by omega
          have hidx : ∀ w' : World, (Instr.index 9 (.string ⟨l.toArray⟩) (.int .i64 (j : Int))).run Try.prog w' = .ok (.int .u8 xi) w' := fun w' => by rw [run_index_bytes w' l j hj, hxi]
          have hge : ¬ ((j : Int) + 1 < (l.length : Int)) := by omega
          have h00 : ((j : Int) + 1 == 0) = false := beq_eq_false_iff_ne.2 (by omega)
          have HKL := Lib.hid hkl
          clear hR hlast hxi hkl hk
          go_wp2
          try rw [Exit.noGoto_ret]
          go_ret3
          exact ⟨ret3 (by rw [HF.out]; rfl), HB.out⟩
end Go.Proofs.Ytljfolepmkcjlaa

/-
  The walk of record.Take's own closure: it takes one number off what is left.
-/
namespace Go.Proofs.Ytljfolepmkcjlaa
open Go.RowKit Plain
set_option maxRecDepth 100000

/-- block b is one cell that holds v -/
def One (w : World) (b : Nat) (v : Value) : Prop := ∃ T, w.heap[b]? = some (.cells #[v] T (0, 0))
theorem One.cell {w : World} {b : Nat} {v : Value} (h : One w b v) : w.cell? ⟨b, 0, none⟩ = some v := by obtain ⟨T, h⟩ := h; rw [Lib.cell_of_heap h]; rfl
theorem One.frozen {w : World} {b : Nat} {v : Value} (h : One w b v) : w.frozen? ⟨b, 0, none⟩ = false := by obtain ⟨T, h⟩ := h; exact Lib.frozen_of_heap h 0
theorem One.lt {w : World} {b : Nat} {v : Value} (h : One w b v) : b < w.heap.size := by obtain ⟨T, h⟩ := h; exact heap_lt h
theorem One.keep {w w' : World} {b : Nat} {v : Value} (h : One w b v) (hk : w'.heap[b]? = w.heap[b]?) : One w' b v := by obtain ⟨T, h⟩ := h; exact ⟨T, hk.trans h⟩
theorem One.below {w w' : World} {b : Nat} {v : Value} (h : One w b v) (hb : Below w.heap.size w w') : One w' b v := h.keep (hb.block b h.lt)
theorem One.set {w : World} {b : Nat} {v : Value} (h : One w b v) (u : Value) : One (w.setCell ⟨b, 0, none⟩ u) b u := by
  obtain ⟨T, h⟩ := h
  exact ⟨T, by simp [World.setCell, Array.getElem?_modify, h]⟩
theorem One.setOther {w : World} {b c : Nat} {v : Value} (h : One w b v) (hne : b ≠ c) (u : Value) : One (w.setCell ⟨c, 0, none⟩ u) b v := h.keep (Below.heap_setCell _ _ _ _ hne)
theorem One.new (w : World) (v : Value) (T : TypeId) : One (w.alloc (.cells #[v] T)) w.heap.size v := ⟨T, heap_alloc_new w _⟩
theorem One.alloc {w : World} {b : Nat} {v : Value} (h : One w b v) (o : Obj) : One (w.alloc o) b v := h.keep (Below.heap_alloc _ _ _ h.lt)

/-- all that was there but blocks b and c is as it was -/
structure But2 (b c : Nat) (w w' : World) : Prop where
  os : w'.os = w.os
  tape : w'.tape = w.tape
  output : w'.output = w.output
  size : w.heap.size ≤ w'.heap.size
  block : ∀ k, k < w.heap.size → k ≠ b → k ≠ c → w'.heap[k]? = w.heap[k]?
theorem But2.below {b c B : Nat} {w0 w w' : World} (h : But2 b c w w') (hb : Below B w0 w) (h1 : B ≤ b) (h2 : B ≤ c) (hz : B ≤ w.heap.size) : Below B w0 w' :=
  hb.trans ⟨h.os, h.tape, h.output, h.size, fun k hk => h.block k (by omega) (by omega) (by omega)⟩

set_option maxHeartbeats 1000000 in
theorem take1_any (bl bo : Nat) (l : Bs) (ok : Bool) (w : World) (hne : bl ≠ bo) (hl : One w bl (.string ⟨l.toArray⟩)) (ho : One w bo (.bool ok)) (hlen : l.length ≤ 65536) :
    Calls Try.prog 65 #[.pointer (some ⟨bl, 0, none⟩), .pointer (some ⟨bo, 0, none⟩)] w fun e w' => e = .returned (.int .u64 ((takeN l).1 : Nat)) ∧
      One w' bl (.string ⟨(l.drop (takeN l).2.1).toArray⟩) ∧ One w' bo (.bool (ok && decide ((takeN l).2.2 = 0))) ∧ But2 bl bo w w' := by
  have HT := Lib.hid (take_any l w (by omega))
  have hsz : (takeN l).2.1 ≤ l.length := by
    by_cases h : (takeN l).2.2 = 0
    · exact (takeN_ok l h).2.2.2.1
    · rw [(takeN_bad l h).2]; omega
  have he : ∀ s : Nat, s ≤ l.length → (⟨l.toArray⟩ : ByteArray).extract s l.length = ⟨(l.drop s).toArray⟩ := fun s hs => by rw [extract_bytes, List.take_length]
  have c0 := hl.cell
  have HL := Lib.hid hl
  have HO := Lib.hid ho
  have HE := Lib.hid he
  clear he
  generalize hn : (takeN l).1 = n at *
  generalize hs : (takeN l).2.1 = s at *
  generalize hx : (takeN l).2.2 = x at *
  clear hn hs hx
  have hl0 := hl.lt
  have ho0 := ho.lt
  clear hl ho
  go_enter Try.func65, Try.ntmps65
  go_wp2_with fail
  refine HT.out.mono ?_
  rintro e w1 ⟨rfl, hb⟩
  have hl1 := HL.out.below hb
  have ho1 := HO.out.below hb
  have hbs := hb.size
  have hkey : ∀ q : Bool, q = (ok && decide (x = 0)) → One ((w1.setCell ⟨bo, 0, none⟩ (.bool q)).setCell ⟨bl, 0, none⟩ (.string ⟨(l.drop s).toArray⟩)) bl (.string ⟨(l.drop s).toArray⟩) ∧
      One ((w1.setCell ⟨bo, 0, none⟩ (.bool q)).setCell ⟨bl, 0, none⟩ (.string ⟨(l.drop s).toArray⟩)) bo (.bool (ok && decide (x = 0))) ∧
      But2 bl bo w ((w1.setCell ⟨bo, 0, none⟩ (.bool q)).setCell ⟨bl, 0, none⟩ (.string ⟨(l.drop s).toArray⟩)) := by
    intro q hq
    refine ⟨((hl1.setOther hne _).set _), by rw [← hq]; exact (ho1.set _).setOther hne.symm _, ⟨hb.os, hb.tape, hb.output, by simp [World.setCell]; omega, fun k hk h1 h2 => ?_⟩⟩
    rw [Below.heap_setCell _ _ _ _ h1, Below.heap_setCell _ _ _ _ h2]
    exact hb.block k hk
  have HK := Lib.hid hkey
  have e0 := hl1.cell
  have e1 := ho1.cell
  have e2 := ho1.frozen
  have hex := HE.out s hsz
  have hsI : (s : Int) ≤ (l.length : Int) := by omega
  have f0 : ∀ q, (w1.setCell ⟨bo, 0, none⟩ (.bool q)).cell? ⟨bl, 0, none⟩ = some (.string ⟨l.toArray⟩) := fun q => (hl1.setOther hne _).cell
  have f1 : ∀ q, (w1.setCell ⟨bo, 0, none⟩ (.bool q)).frozen? ⟨bl, 0, none⟩ = false := fun q => (hl1.setOther hne (.bool q)).frozen
  clear hkey hl1 ho1 hbs hb c0 hl0 ho0 HT HE HL HO
  by_cases hx : x = 0
  · subst hx
    cases ok
    all_goals
      go_wp2
      go_ret
      exact ⟨rfl, HK.out _ (by simp)⟩
  · have hxe : ((x : Int) == 0) = false := beq_eq_false_iff_ne.2 (by omega)
    have HX := Lib.hid hx
    clear hx
    cases ok
    all_goals
      go_wp2
      go_ret
      exact ⟨rfl, HK.out _ (by simp [HX.out])⟩
end Go.Proofs.Ytljfolepmkcjlaa

/-
  Plain facts on how record.Take goes: tags first, then bodies, with a flag.
-/
namespace Go.Proofs.Ytljfolepmkcjlaa.Plain

def TGood (c : Nat) (r : Bs) (i : Nat) (ok : Bool) (l : Bs) (ts : List Nat) : Prop :=
  ts.length = i ∧ i ≤ c ∧ l.length ≤ r.length ∧ (∀ t ∈ ts, t < 18446744073709551616) ∧ takeTags c r = if ok then (takeTags (c - i) l).map (fun p => (ts ++ p.1, p.2)) else none

theorem takeN_lt (l : Bs) : (takeN l).1 < 18446744073709551616 := by
  by_cases h : (takeN l).2.2 = 0
  · exact (takeN_ok l h).1
  · rw [(takeN_bad l h).1]; omega

theorem TGood.start (c : Nat) (r : Bs) : TGood c r 0 true r [] := ⟨rfl, by omega, by omega, by simp, by cases takeTags c r <;> simp⟩
theorem TGood.step {c : Nat} {r : Bs} {i : Nat} {ok : Bool} {l : Bs} {ts : List Nat} (h : TGood c r i ok l ts) (hi : i < c) :
    TGood c r (i + 1) (ok && decide ((takeN l).2.2 = 0)) (l.drop (takeN l).2.1) (ts ++ [(takeN l).1]) := by
  obtain ⟨h1, h2, h3, h4, h5⟩ := h
  refine ⟨by simp [h1], by omega, by rw [List.length_drop]; omega, ?_, ?_⟩
  · intro t ht
    rcases List.mem_append.1 ht with ht | ht
    · exact h4 t ht
    · rw [List.mem_singleton.1 ht]; exact takeN_lt l
  · rw [h5]
    cases ok with
    | false => simp
    | true =>
      have e : c - i = (c - (i + 1)) + 1 := by omega
      simp only [if_true, Bool.true_and]
      rw [e]
      simp only [takeTags]
      by_cases hx : (takeN l).2.2 = 0
      · simp only [hx, if_true, decide_true]
        cases takeTags (c - (i + 1)) (l.drop (takeN l).2.1) <;> simp
      · simp [hx]
theorem TGood.fin {c : Nat} {r : Bs} {ok : Bool} {l : Bs} {ts : List Nat} (h : TGood c r c ok l ts) : takeTags c r = if ok then some (ts, l) else none := by
  rw [h.2.2.2.2, Nat.sub_self]
  simp [takeTags]

def BGood (ts : List Nat) (R : Option (List Val × Bs)) (k : Nat) (ok : Bool) (l : Bs) (row : List Val) : Prop :=
  row.length = k ∧ k ≤ ts.length ∧ R = if ok then (takeBodies (ts.drop k) l).map (fun q => (row ++ q.1, q.2)) else none

theorem BGood.start (ts : List Nat) (ok : Bool) (l : Bs) : BGood ts (if ok then takeBodies ts l else none) 0 ok l [] :=
  ⟨rfl, by omega, by cases ok <;> simp⟩

/-- one body by the program's way -/
def bodyVal (t : Nat) (l : Bs) : Val :=
  if t = 0 then ⟨0, 0, []⟩ else if t = 1 then ⟨1, unfoldN (takeN l).1, []⟩ else ⟨2 + (t % 2 : Nat), 0, l.take (min (min (t / 2 - 1) 4000) l.length)⟩
def bodyOk (t : Nat) (l : Bs) : Bool :=
  if t = 0 then true else if t = 1 then decide ((takeN l).2.2 = 0) else decide (min (t / 2 - 1) 4000 ≤ min l.length 1000)
def bodyLeft (t : Nat) (l : Bs) : Bs :=
  if t = 0 then l else if t = 1 then l.drop (takeN l).2.1 else l.drop (min (min (t / 2 - 1) 4000) l.length)

theorem takeBody_eq (t : Nat) (l : Bs) : takeBody t l = if bodyOk t l then some (bodyVal t l, bodyLeft t l) else none := by
  unfold takeBody bodyOk bodyVal bodyLeft
  by_cases h0 : t = 0
  · simp [h0]
  · by_cases h1 : t = 1
    · subst h1
      by_cases h2 : (takeN l).2.2 = 0 <;> simp [h2]
    · simp only [h0, h1, if_false]
      by_cases h2 : t / 2 - 1 > 1000 ∨ t / 2 - 1 > l.length
      · rw [if_pos h2, if_neg (by simp; omega)]
      · rw [if_neg h2, if_pos (by simp; omega)]
        have e : min (min (t / 2 - 1) 4000) l.length = t / 2 - 1 := by omega
        rw [e]

theorem BGood.step {ts : List Nat} {R : Option (List Val × Bs)} {k : Nat} {ok : Bool} {l : Bs} {row : List Val} (h : BGood ts R k ok l row) (hk : k < ts.length) :
    BGood ts R (k + 1) (ok && bodyOk ts[k] l) (bodyLeft ts[k] l) (row ++ [bodyVal ts[k] l]) := by
  obtain ⟨h1, h2, h3⟩ := h
  refine ⟨by simp [h1], hk, ?_⟩
  rw [h3]
  cases ok with
  | false => simp
  | true =>
    rw [List.drop_eq_getElem_cons hk]
    simp only [if_true, Bool.true_and, takeBodies, takeBody_eq]
    cases hb : bodyOk ts[k] l with
    | false => simp
    | true =>
      simp only [if_true]
      cases takeBodies (ts.drop (k + 1)) (bodyLeft ts[k] l) <;> simp

theorem BGood.fin {ts : List Nat} {R : Option (List Val × Bs)} {k : Nat} {ok : Bool} {l : Bs} {row : List Val} (h : BGood ts R k ok l row) (hk : k = ts.length) : R = if ok then some (row, l) else none := by
  subst hk
  rw [h.2.2, List.drop_length]
  simp [takeBodies]

theorem bodyLeft_le (t : Nat) (l : Bs) : (bodyLeft t l).length ≤ l.length := by
  unfold bodyLeft; split
  · omega
  · split <;> (rw [List.length_drop]; omega)

theorem body_long (t : Nat) (l : Bs) (h : 2 ≤ t) : bodyVal t l = ⟨2 + (t % 2 : Nat), 0, l.take (min (min (t / 2 - 1) 4000) l.length)⟩ ∧ bodyOk t l = decide (min (t / 2 - 1) 4000 ≤ min l.length 1000) ∧ bodyLeft t l = l.drop (min (min (t / 2 - 1) 4000) l.length) := by
  unfold bodyVal bodyOk bodyLeft
  simp only [show t ≠ 0 by omega, show t ≠ 1 by omega, if_false, and_self]

theorem takePart_cons (c : UInt8) (r : Bs) (h : c.toNat ≤ 16) : takePart (c :: r) = match takeTags c.toNat r with
    | none => none
    | some p => takeBodies p.1 p.2 := by
  simp only [takePart]
  rw [if_neg (by omega)]
  all_goals (cases takeTags c.toNat r <;> rfl)

/-- what Take answers, by flag and rest -/
theorem takeRow_flag {c : UInt8} {r : Bs} (h16 : c.toNat ≤ 16) (hl : (c :: r).length ≤ 4000) {ok1 ok : Bool} {l1 l : Bs} {ts : List Nat} {row : List Val}
    (h1 : takeTags c.toNat r = if ok1 then some (ts, l1) else none) (h2 : (if ok1 then takeBodies ts l1 else none) = if ok then some (row, l) else none) :
    takeRow (c :: r) = if ok && decide (l = []) then some row else none := by
  have hp : takePart (c :: r) = if ok then some (row, l) else none := by
    rw [takePart_cons c r h16, h1, ← h2]
    cases ok1 <;> rfl
  unfold takeRow
  rw [if_neg (by omega), hp]
  cases ok with
  | false => rfl
  | true =>
    cases l with
    | nil => rfl
    | cons a b => rfl
theorem takeRow_nil : takeRow [] = none := by simp [takeRow, takePart]
theorem takeRow_many {c : UInt8} {r : Bs} (h : 16 < c.toNat) : takeRow (c :: r) = none := by
  unfold takeRow
  split
  · rfl
  · simp [takePart, h]
theorem takeRow_long {s : Bs} (h : 4000 < s.length) : takeRow s = none := by unfold takeRow; rw [if_pos h]
end Go.Proofs.Ytljfolepmkcjlaa.Plain

/-
  Memory laws for record.Take's walk: two boxed variables, and rows of numbers and of values that grow.
-/
namespace Go.Proofs.Ytljfolepmkcjlaa
open Go.RowKit Plain
set_option maxRecDepth 100000

theorem But2.refl (b c : Nat) (w : World) : But2 b c w w := ⟨rfl, rfl, rfl, Nat.le_refl _, fun _ _ _ _ => rfl⟩
theorem But2.trans {b c : Nat} {w0 w w' : World} (h : But2 b c w0 w) (k : But2 b c w w') : But2 b c w0 w' :=
  ⟨k.os.trans h.os, k.tape.trans h.tape, k.output.trans h.output, Nat.le_trans h.size k.size, fun i hi h1 h2 => (k.block i (Nat.lt_of_lt_of_le hi h.size) h1 h2).trans (h.block i hi h1 h2)⟩
theorem But2.alloc {b c : Nat} {w0 w : World} (h : But2 b c w0 w) (o : Obj) : But2 b c w0 (w.alloc o) :=
  ⟨h.os, h.tape, h.output, by have := h.size; simp; omega, fun k hk h1 h2 => (Below.heap_alloc w o k (Nat.lt_of_lt_of_le hk h.size)).trans (h.block k hk h1 h2)⟩
theorem But2.grown {b c : Nat} {w0 w w' : World} {row : Option Nat} (h : But2 b c w0 w) (g : w.grownBy w' row) (hr : ∀ k, row = some k → w0.heap.size ≤ k) : But2 b c w0 w' :=
  ⟨g.os.trans h.os, g.tape.trans h.tape, g.output.trans h.output, Nat.le_trans h.size g.size, fun k hk h1 h2 =>
    (g.block k (Nat.lt_of_lt_of_le hk h.size) (fun e => by have := hr k e.symm; omega)).trans (h.block k hk h1 h2)⟩
theorem But2.set1 {b c : Nat} {w0 w : World} (h : But2 b c w0 w) (u : Value) : But2 b c w0 (w.setCell ⟨b, 0, none⟩ u) :=
  ⟨h.os, h.tape, h.output, by have := h.size; simp [World.setCell]; omega, fun k hk h1 h2 => (Below.heap_setCell _ _ _ _ h1).trans (h.block k hk h1 h2)⟩
theorem But2.set2 {b c : Nat} {w0 w : World} (h : But2 b c w0 w) (u : Value) : But2 b c w0 (w.setCell ⟨c, 0, none⟩ u) :=
  ⟨h.os, h.tape, h.output, by have := h.size; simp [World.setCell]; omega, fun k hk h1 h2 => (Below.heap_setCell _ _ _ _ h2).trans (h.block k hk h1 h2)⟩
theorem But2.set {b c d : Nat} {w0 w : World} (h : But2 b c w0 w) (hd : w0.heap.size ≤ d) (u : Value) : But2 b c w0 (w.setCell ⟨d, 0, none⟩ u) :=
  ⟨h.os, h.tape, h.output, by have := h.size; simp [World.setCell]; omega, fun k hk h1 h2 => (Below.heap_setCell _ _ _ _ (by show k ≠ d; omega)).trans (h.block k hk h1 h2)⟩

theorem One.grown {w w' : World} {b : Nat} {v : Value} {row : Option Nat} (h : One w b v) (g : w.grownBy w' row) (hne : ∀ k, row = some k → b ≠ k) : One w' b v :=
  h.keep (g.block b h.lt (fun e => hne b e.symm rfl))
theorem One.but2 {w w' : World} {b c d : Nat} {v : Value} (h : One w d v) (k : But2 b c w w') (h1 : d ≠ b) (h2 : d ≠ c) : One w' d v := h.keep (k.block d h.lt h1 h2)

theorem own_but2 {w w' : World} {b c base e sz n : Nat} {v : Value} {xs : List Value} (h : w.ownsRow base e sz v n xs) (k : But2 b c w w') (h1 : b < base) (h2 : c < base) : w'.ownsRow base e sz v n xs := by
  refine ⟨h.1, ?_⟩
  rcases h.2 with hn | ⟨g, cap, cur, rfl, hb, hgg, rest⟩
  · exact .inl hn
  · exact .inr ⟨g, cap, cur, rfl, hb, (k.block g (heap_lt hgg) (by omega) (by omega)).trans hgg, rest⟩
theorem own_set {w : World} {d base e sz n : Nat} {v : Value} {xs : List Value} (h : w.ownsRow base e sz v n xs) (hd : d < base) (u : Value) : (w.setCell ⟨d, 0, none⟩ u).ownsRow base e sz v n xs :=
  own_but2 h ((But2.refl d d w).set1 u) hd hd

theorem But2.cell3 (d : Nat) (w : World) (x y z : Value) : But2 d d w (((w.setCell ⟨d, 0, none⟩ x).setCell ⟨d, 1, none⟩ y).setCell ⟨d, 2, none⟩ z) :=
  ⟨rfl, rfl, rfl, by simp [World.setCell], fun k _ h1 _ => by
    rw [Below.heap_setCell _ _ _ _ h1, Below.heap_setCell _ _ _ _ h1, Below.heap_setCell _ _ _ _ h1]⟩
theorem But2.via {b c d : Nat} {w0 w w' : World} (h : But2 b c w0 w) (k : But2 d d w w') (hd : w0.heap.size ≤ d) : But2 b c w0 w' :=
  ⟨k.os.trans h.os, k.tape.trans h.tape, k.output.trans h.output, Nat.le_trans h.size k.size, fun i hi h1 h2 =>
    (k.block i (Nat.lt_of_lt_of_le hi h.size) (by omega) (by omega)).trans (h.block i hi h1 h2)⟩
theorem own_but1 {w w' : World} {d base e sz n : Nat} {v : Value} {xs : List Value} (h : w.ownsRow base e sz v n xs) (k : But2 d d w w') (hd : ∀ g, v.ownBlock = some g → g ≠ d) : w'.ownsRow base e sz v n xs := by
  refine ⟨h.1, ?_⟩
  rcases h.2 with hn | ⟨g, cap, cur, rfl, hb, hgg, rest⟩
  · exact .inl hn
  · have := hd g rfl
    exact .inr ⟨g, cap, cur, rfl, hb, (k.block g (heap_lt hgg) this this).trans hgg, rest⟩

def tagCells (l : List Nat) : List Value := l.map fun (t : Nat) => .int .u64 (t : Int)
theorem tagCells_append (a b : List Nat) : tagCells (a ++ b) = tagCells a ++ tagCells b := by simp [tagCells]
theorem tagCells_one (l : List Nat) : ∀ u ∈ tagCells l, u.oneCell' = true := by
  intro u hu
  simp only [tagCells, List.mem_map] at hu
  obtain ⟨c, _, rfl⟩ := hu
  rfl
theorem rowCells_one (l : List Val) : ∀ u ∈ rowCells l, u.oneCell' = true := by
  intro u hu
  simp only [rowCells, List.mem_flatMap, List.mem_cons, List.not_mem_nil, or_false] at hu
  obtain ⟨c, _, rfl | rfl | rfl⟩ := hu <;> rfl

theorem info_u64 : (Try.prog.info? 61).map (fun i => (i.zero, i.size, i.bytes)) = some (some (.int .u64 0), 1, 8) := by kernel_rfl
theorem info_val : (Try.prog.info? 49).map (fun i => (i.zero, i.size, i.bytes)) = some (some (.agg #[.int .u8 0, .int .i64 0, .string ⟨#[]⟩]), 3, 32) := by kernel_rfl

theorem own_lit_u64 (w : World) (base : Nat) (hb : base ≤ w.heap.size) (t : Nat) (v : Int) (hv : v = (t : Int)) :
    (w.alloc (.cells #[.int .u64 v] 61)).ownsRow base 61 1 (.slice (some ⟨w.heap.size, 0, none⟩) 1 1) 1 (tagCells [t]) := by
  subst hv
  exact World.ownsRow_lit (base := base) (e := 61) (size := 1) w #[.int .u64 (t : Int)] 1 hb (by unfold maxLen; omega) rfl
theorem Sl.lit_u64 (w : World) (t : Nat) (v : Int) (hv : v = (t : Int)) : Sl (w.alloc (.cells #[.int .u64 v] 61)) 1 (some ⟨w.heap.size, 0, none⟩) 1 (tagCells [t]) := by
  obtain ⟨A, c, e, h⟩ := Sl.own (own_lit_u64 w w.heap.size (Nat.le_refl _) t v hv)
  injection e with e1 e2 e3
  subst e1
  exact h
theorem own_lit_val (w : World) (base : Nat) (hb : base ≤ w.heap.size) (v : Val) (k n : Value) (s : Value) (h1 : k = .int .u8 v.k) (h2 : n = .int .i64 v.n) (h3 : s = .string ⟨v.s.toArray⟩) :
    (w.alloc (.cells #[k, n, s] 49)).ownsRow base 49 3 (.slice (some ⟨w.heap.size, 0, none⟩) 1 1) 1 (rowCells [v]) := by
  subst h1 h2 h3
  exact World.ownsRow_lit (base := base) (e := 49) (size := 3) w #[.int .u8 v.k, .int .i64 v.n, .string ⟨v.s.toArray⟩] 1 hb (by unfold maxLen; omega) rfl
theorem Sl.lit_val (w : World) (v : Val) (b : Nat) (k n : Value) (s : Value) (hb : b = w.heap.size) (h1 : k = .int .u8 v.k) (h2 : n = .int .i64 v.n) (h3 : s = .string ⟨v.s.toArray⟩) : Sl (w.alloc (.cells #[k, n, s] 49)) 3 (some ⟨b, 0, none⟩) 1 (rowCells [v]) := by
  subst hb
  obtain ⟨A, c, e, h⟩ := Sl.own (own_lit_val w w.heap.size (Nat.le_refl _) v k n s h1 h2 h3)
  injection e with e1 e2 e3
  subst e1
  exact h

theorem app_u64 (w : World) {ops : Array Oper} {rest : List Oper} {o : Oper} {a : Act} {Q : Exit → Act → World → Prop} (hgd : o.guard = none) (s x : Operand)
    (ho : o.op = .call { callee := .builtin .append, args := #[s, x], argTypes := #[86, 86] })
    (base : Nat) (v : Value) (n : Nat) (xs : List Nat) (hs : a.eval s = v) (hown : w.ownsRow base 61 1 v n (tagCells xs))
    (A : Option Addr) (m c : Nat) (news : List Nat) (hx : a.eval x = .slice A m c) (hr : Sl w 1 A m (tagCells news))
    (hbytes : n + m ≤ 1048576) (hbase : base ≤ w.heap.size)
    (h : ∀ v' w', w'.ownsRow base 61 1 v' (n + m) (tagCells (xs ++ news)) → w.grownBy w' v.ownBlock → (v'.ownBlock = v.ownBlock ∨ v'.ownBlock = some w.heap.size) → wpList Try.prog ops Q rest (a.put o.dst v') w') :
    wpList Try.prog ops Q (o :: rest) a w := by
  obtain ⟨i0, hi, hz0, hz1, hz2⟩ := info_parts info_u64
  refine wpList_app w hgd s x _ ho base 61 i0 (.int .u64 0) 1 8 Try.underlying86 hi hz0 hz1 hz2 rfl (by decide) v n _ hs hown A m c _ hx hr (tagCells_one _) (by unfold maxLen; omega) (by omega) hbase ?_
  intro v' w' h1 h2 h3
  rw [← tagCells_append] at h1
  exact h v' w' h1 h2 h3

theorem app_val (w : World) {ops : Array Oper} {rest : List Oper} {o : Oper} {a : Act} {Q : Exit → Act → World → Prop} (hgd : o.guard = none) (s x : Operand)
    (ho : o.op = .call { callee := .builtin .append, args := #[s, x], argTypes := #[44, 44] })
    (base : Nat) (v : Value) (n : Nat) (xs : List Val) (hs : a.eval s = v) (hown : w.ownsRow base 49 3 v n (rowCells xs))
    (A : Option Addr) (m c : Nat) (news : List Val) (hx : a.eval x = .slice A m c) (hr : Sl w 3 A m (rowCells news))
    (hbytes : n + m ≤ 1048576) (hbase : base ≤ w.heap.size)
    (h : ∀ v' w', w'.ownsRow base 49 3 v' (n + m) (rowCells (xs ++ news)) → w.grownBy w' v.ownBlock → (v'.ownBlock = v.ownBlock ∨ v'.ownBlock = some w.heap.size) → wpList Try.prog ops Q rest (a.put o.dst v') w') :
    wpList Try.prog ops Q (o :: rest) a w := by
  obtain ⟨i0, hi, hz0, hz1, hz2⟩ := info_parts info_val
  refine wpList_app w hgd s x _ ho base 49 i0 (.agg #[.int .u8 0, .int .i64 0, .string ⟨#[]⟩]) 3 32 Try.underlying44 hi hz0 hz1 hz2 rfl (by decide) v n _ hs hown A m c _ hx hr (rowCells_one _) (by unfold maxLen; omega) (by omega) hbase ?_
  intro v' w' h1 h2 h3
  rw [← rowCells_append] at h1
  exact h v' w' h1 h2 h3

/-! The sums in a long value's length, each as a run: the walk takes them whole. -/
/-- one long value's sums, as the walk spells them: t its tag, n the bytes left -/
theorem long_sums (t n : Nat) (h : t < 18446744073709551616) (h2 : 2 ≤ t) : ∃ (m : Int) (z : Nat) (b : Bool), z = min (min (t / 2 - 1) 4000) n ∧ b = decide (min (t / 2 - 1) 4000 ≤ min n 1000) ∧
    wrap64 (if (4000 : Int) < IntKind.u64.wrap (IntKind.u64.wrap ((t : Int).tdiv 2) - 1) then 4000 else IntKind.u64.wrap (IntKind.u64.wrap ((t : Int).tdiv 2) - 1)) = m ∧
    decide (m ≤ if (1000 : Int) < (n : Int) then 1000 else (n : Int)) = b ∧
    (if (n : Int) < m then (n : Int) else m) = (z : Int) := by
  have e : IntKind.u64.wrap (IntKind.u64.wrap ((t : Int).tdiv 2) - 1) = ((t / 2 - 1 : Nat) : Int) := by
    rw [Int.tdiv_eq_ediv_of_nonneg (by omega), IntKind.wrap_u64, IntKind.wrap_u64]; omega
  refine ⟨((min (t / 2 - 1) 4000 : Nat) : Int), _, _, rfl, rfl, ?_, ?_, ?_⟩
  · rw [e]
    have : (if (4000 : Int) < ((t / 2 - 1 : Nat) : Int) then (4000 : Int) else ((t / 2 - 1 : Nat) : Int)) = ((min (t / 2 - 1) 4000 : Nat) : Int) := by split <;> omega
    rw [this, IntWalk.wrap64_in _ (by omega)]
  · rw [decide_eq_decide]
    split <;> omega
  · split <;> omega
theorem long_kind (t : Nat) : (2 + (t : Int).tmod 2) % 256 = 2 + ((t % 2 : Nat) : Int) := by
  rw [Int.tmod_eq_emod_of_nonneg (by omega)]
  omega

/-- what loop 1 of Take holds to -/
def TRel (c : Nat) (r : Bs) (bl bo : Nat) (w0 : World) (i : Nat) (v7 : Value) (wr : World) : Prop :=
  ∃ (ok : Bool) (l : Bs) (ts : List Nat), TGood c r i ok l ts ∧ One wr bl (.string ⟨l.toArray⟩) ∧ One wr bo (.bool ok) ∧ wr.ownsRow w0.heap.size 61 1 v7 i (tagCells ts) ∧ But2 bl bo w0 wr

/-- what loop 2 of Take holds to -/
def BRel (ts : List Nat) (R : Option (List Val × Bs)) (bl bo : Nat) (w0 : World) (k : Nat) (v8 : Value) (wr : World) : Prop :=
  ∃ (ok : Bool) (l : Bs) (row : List Val), BGood ts R k ok l row ∧ l.length ≤ 4000 ∧ One wr bl (.string ⟨l.toArray⟩) ∧ One wr bo (.bool ok) ∧ wr.ownsRow w0.heap.size 49 3 v8 k (rowCells row) ∧ But2 bl bo w0 wr
end Go.Proofs.Ytljfolepmkcjlaa
