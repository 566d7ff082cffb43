/-
  Small laws on memory: a slice that holds cells (nil let in), append onto a row of the call's own.
-/
import Derived.Test.YtljfolepmkcjlaaChecked
import Derived.WalkKit
import Derived.Below
import Derived.Maps.AppendAt
import Derived.OwnWalk
import Derived.Deep.OwnRows
import Derived.Deep.AppendLies
import Derived.WalkSmall
import Derived.Lib.Hide
import Derived.Lib.UnsafeStr
import Derived.Laws.IdiomStrings
import Derived.Laws.Rows
namespace Go.Proofs.Ytljfolepmkcjlaa
open Go.RowKit

theorem add_plain (b off j : Nat) : (⟨b, off, none⟩ : Addr).add j = ⟨b, off + j, none⟩ := by
  unfold Addr.add; split <;> simp_all

/-- The slice '.slice A n _' holds the cells xs, sz cells an element. -/
def Sl (w : World) (sz : Nat) (A : Option Addr) (n : Nat) (xs : List Value) : Prop :=
  xs.length = n * sz ∧ (0 < n * sz → ∃ b off, A = some ⟨b, off, none⟩ ∧ ∀ j u, xs[j]? = some u → w.cell? ⟨b, off + j, none⟩ = some u)

theorem Sl.nil (w : World) (sz : Nat) (A : Option Addr) : Sl w sz A 0 [] := ⟨by simp, fun h => absurd h (by simp)⟩

theorem Sl.keep {w w' : World} {sz n : Nat} {A : Option Addr} {xs : List Value} (h : Sl w sz A n xs) (hk : ∀ b o, b < w.heap.size → w'.cell? ⟨b, o, none⟩ = w.cell? ⟨b, o, none⟩) : Sl w' sz A n xs := by
  refine ⟨h.1, fun hn => ?_⟩
  obtain ⟨b, off, e, hc⟩ := h.2 hn
  refine ⟨b, off, e, fun j u hu => ?_⟩
  have := hc j u hu
  rw [hk b _ (World.block_lt_of_cell? w _ this)]
  exact this
theorem Sl.below {w w' : World} {sz n B : Nat} {A : Option Addr} {xs : List Value} (h : Sl w sz A n xs) (hb : Below B w w') (hB : w.heap.size ≤ B) : Sl w' sz A n xs :=
  h.keep fun b o hlt => hb.cell (p := ⟨b, o, none⟩) (by exact Nat.lt_of_lt_of_le hlt hB)

theorem Sl.alloc {w : World} {sz n : Nat} {A : Option Addr} {xs : List Value} (h : Sl w sz A n xs) (o : Obj) : Sl (w.alloc o) sz A n xs := h.keep fun b o' hb => World.cell?_alloc_lt w o ⟨b, o', none⟩ hb
theorem Sl.drew {w : World} {sz n : Nat} {A : Option Addr} {xs : List Value} (h : Sl w sz A n xs) : Sl w.drew sz A n xs := h
theorem Sl.drewN {w : World} {sz n : Nat} {A : Option Addr} {xs : List Value} (h : Sl w sz A n xs) (k : Nat) : Sl (w.drewN k) sz A n xs := h

theorem Sl.own {w : World} {base e sz n : Nat} {v : Value} {xs : List Value} (h : w.ownsRow base e sz v n xs) : ∃ A c, v = .slice A n c ∧ Sl w sz A n xs := by
  rcases h.2 with ⟨rfl, rfl⟩ | ⟨g, cap, cur, rfl, _⟩
  · have hx : xs = [] := List.eq_nil_of_length_eq_zero (by simpa using h.1)
    subst hx
    exact ⟨none, 0, rfl, Sl.nil _ _ _⟩
  · exact ⟨_, _, rfl, h.1, fun _ => ⟨g, 0, rfl, fun j u hu => by
      have := h.cells (g := g) rfl j u hu
      rwa [add_plain] at this⟩⟩

theorem own_form {w : World} {base e sz n : Nat} {v : Value} {xs : List Value} (h : w.ownsRow base e sz v n xs) (hn : 0 < n) : ∃ g cap, v = .slice (some ⟨g, 0, none⟩) n cap ∧ base ≤ g ∧ n ≤ cap ∧ g < w.heap.size := by
  rcases h.2 with ⟨rfl, rfl⟩ | ⟨g, cap, cur, rfl, hb, hg, hnc, _⟩
  · omega
  · refine ⟨g, cap, rfl, hb, hnc, ?_⟩
    rcases Nat.lt_or_ge g w.heap.size with hl | hl
    · exact hl
    · rw [Array.getElem?_eq_none hl] at hg; cases hg

section
variable {P : Program} (w : World)

theorem run_app (base : Nat) (t ty e : TypeId) (i : TypeInfo) (z : Value) (size bytes : Nat) (ht : P.underlying t = some (.slice e)) (hi : P.info? e = some i) (hz : i.zero = some z)
    (hsize : i.size = size) (hby : i.bytes = bytes) (hzs : z.cells.size = size) (hsz : 0 < size)
    (v : Value) (n : Nat) (xs : List Value) (hown : w.ownsRow base e size v n xs)
    (A : Option Addr) (m c : Nat) (news : List Value) (hs : Sl w size A m news) (h1 : ∀ u ∈ news, u.oneCell' = true)
    (h63 : n + m ≤ maxLen) (hbytes : (n + m) * bytes ≤ 140737488355328) (hbase : base ≤ w.heap.size) :
    ∃ v' w', (Builtin.append_ #[t, t] ty #[v, .slice A m c]).run P w = .ok v' w' ∧ w'.ownsRow base e size v' (n + m) (xs ++ news) ∧ w.grownBy w' v.ownBlock ∧
      (v'.ownBlock = v.ownBlock ∨ v'.ownBlock = some w.heap.size) := by
  by_cases hm : m = 0
  · subst hm
    have hn : news = [] := List.eq_nil_of_length_eq_zero (by simpa using hs.1)
    subst hn
    refine ⟨v, w, ?_, by simpa using hown, World.grownBy.refl w _, .inl rfl⟩
    rcases hown.2 with ⟨rfl, rfl⟩ | ⟨g, cap, cur, rfl, _, _, hnc, _⟩
    · cases A <;> simp [Builtin.append_, run_underlying ht, sizeOf, typeInfo, hi, Builtin.lenOf, Builtin.firstCells, loadCells, loadCellsFrom]
    · cases A <;> simp [Builtin.append_, run_underlying ht, sizeOf, typeInfo, hi, Builtin.lenOf, Builtin.firstCells, hnc, storeCells, loadCells, loadCellsFrom]
  · obtain ⟨b, off, rfl, hc⟩ := hs.2 (Nat.mul_pos (by omega) hsz)
    obtain ⟨v', w', hrun, h2, h3, _, h5⟩ := run_append_own_at (P := P) w base t ty e i z size bytes ht hi hz hsize hby hzs hsz v n xs hown ⟨b, off, none⟩ m c news hs.1
      (fun j u hu => by rw [add_plain]; exact hc j u hu) h1 h63 hbytes hbase
    exact ⟨v', w', hrun, h2, h3, h5⟩

theorem wpList_app {ops : Array Oper} {rest : List Oper} {o : Oper} {a : Act} {Q : Exit → Act → World → Prop} (hgd : o.guard = none) (s x : Operand) (t : TypeId)
    (ho : o.op = .call { callee := .builtin .append, args := #[s, x], argTypes := #[t, t] })
    (base : Nat) (e : TypeId) (i : TypeInfo) (z : Value) (size bytes : Nat) (ht : P.underlying t = some (.slice e)) (hi : P.info? e = some i) (hz : i.zero = some z)
    (hsize : i.size = size) (hby : i.bytes = bytes) (hzs : z.cells.size = size) (hsz : 0 < size)
    (v : Value) (n : Nat) (xs : List Value) (hs : a.eval s = v) (hown : w.ownsRow base e size v n xs)
    (A : Option Addr) (m c : Nat) (news : List Value) (hx : a.eval x = .slice A m c) (hr : Sl w size A m news) (h1 : ∀ u ∈ news, u.oneCell' = true)
    (h63 : n + m ≤ maxLen) (hbytes : (n + m) * bytes ≤ 140737488355328) (hbase : base ≤ w.heap.size)
    (h : ∀ v' w', w'.ownsRow base e size v' (n + m) (xs ++ news) → w.grownBy w' v.ownBlock → (v'.ownBlock = v.ownBlock ∨ v'.ownBlock = some w.heap.size) → wpList P ops Q rest (a.put o.dst v') w') : wpList P ops Q (o :: rest) a w := by
  refine wpList_plain hgd fun K hK => ?_
  obtain ⟨v', w', hrun, h2, h3, h4⟩ := run_app (P := P) w base t o.type e i z size bytes ht hi hz hsize hby hzs hsz v n xs hown A m c news hr h1 h63 hbytes hbase
  unfold Oper.wp execOp
  simp only [ho, resolve, invoke, builtin, Sem.run_bind, Sem.run_pure, Result.andThen_ok, List.map_toArray, List.map_cons, List.map_nil, hs, hx, hrun]
  exact hK _ _ (h v' w' h2 h3 h4)
end

/-! The row of the table of types for uint8, and what a list of bytes lies as. -/
theorem info_u8 : (Try.prog.info? 5).map (fun i => (i.zero, i.size, i.bytes)) = some (some (.int .u8 0), 1, 1) := by kernel_rfl

theorem cells_bytes_one (l : List UInt8) : ∀ u ∈ Lib.byteCells l, u.oneCell' = true := by
  intro u hu
  simp only [Lib.byteCells, List.mem_map] at hu
  obtain ⟨c, _, rfl⟩ := hu
  rfl
theorem cells_bytes_length (l : List UInt8) : (Lib.byteCells l).length = l.length := by simp [Lib.byteCells]
theorem cells_bytes_append (a b : List UInt8) : Lib.byteCells (a ++ b) = Lib.byteCells a ++ Lib.byteCells b := by simp [Lib.byteCells]
theorem cells_bytes_get (l : List UInt8) (j : Nat) (h : j < l.length) : (Lib.byteCells l)[j]? = some (.int .u8 (l[j].toNat : Int)) := by simp [Lib.byteCells, h]

/-- string(b) of a slice that holds bytes -/
theorem run_str_sl {w : World} {A : Option Addr} {n c : Nat} {l : List UInt8} (h : Sl w 1 A n (Lib.byteCells l)) :
    (convert 70 9 (.slice A n c)).run Try.prog w = .ok (.string ⟨l.toArray⟩) w := by
  have hl : n = l.length := by have := h.1; rw [cells_bytes_length] at this; omega
  subst hl
  rcases l with _ | ⟨x, l⟩
  · rw [run_convert_bytes_string w _ _ _ A _ c Try.underlying70 Try.underlying5 Try.underlying9]
    cases A <;> simp [Conv.bytesToString, loadCells, loadCellsFrom] <;> rfl
  · obtain ⟨b, off, rfl, hc⟩ := h.2 (by simp)
    refine run_convert_bytes_back w _ _ 5 ⟨b, off, none⟩ c (x :: l) Try.underlying70 Try.underlying5 Try.underlying9 ?_
    intro j hj
    rw [add_plain]
    exact hc j _ (cells_bytes_get _ j hj)
/-- the length of a slice value -/
def lenOf : Value → Nat | .slice _ l _ => l | _ => 0

theorem own_len {w : World} {base e sz n : Nat} {v : Value} {xs : List Value} (h : w.ownsRow base e sz v n xs) : lenOf v = n := by
  rcases h.2 with ⟨rfl, rfl⟩ | ⟨g, cap, cur, rfl, _⟩ <;> rfl

/-- behind an append onto a slice literal that was just made -/
theorem below_lit {B : Nat} {w wr w' : World} {o : Obj} {n c : Nat} (hB : Below B w wr) (hz : B ≤ wr.heap.size) (g : (wr.alloc o).grownBy w' (Value.ownBlock (.slice (some ⟨wr.heap.size, 0, none⟩) n c))) : Below B w w' :=
  (hB.alloc hz _).grown g (by simp; omega) (fun b hb => by
    have : wr.heap.size = b := by simpa [Value.ownBlock] using hb
    omega)
/-- behind an append onto a row of the call's own -/
theorem below_own {B : Nat} {w wr w' : World} {e sz n : Nat} {v : Value} {xs : List Value} (hB : Below B w wr) (hz : B ≤ wr.heap.size) (ho : wr.ownsRow B e sz v n xs) (g : wr.grownBy w' v.ownBlock) : Below B w w' :=
  hB.grown g hz (fun b hb => (ho.lt b hb).1)
theorem below_own_alloc {B : Nat} {w wr w' : World} {o : Obj} {e sz n : Nat} {v : Value} {xs : List Value} (hB : Below B w wr) (hz : B ≤ wr.heap.size) (ho : wr.ownsRow B e sz v n xs) (g : (wr.alloc o).grownBy w' v.ownBlock) : Below B w w' :=
  (hB.alloc hz o).grown g (by simp; omega) (fun b hb => (ho.lt b hb).1)

/-- a slice literal of one byte -/
theorem own_lit_u8 (w : World) (base : Nat) (hb : base ≤ w.heap.size) (x : UInt8) (v : Int) (hv : v = (x.toNat : Int)) :
    (w.alloc (.cells #[.int .u8 v] 5)).ownsRow base 5 1 (.slice (some ⟨w.heap.size, 0, none⟩) 1 1) 1 (Lib.byteCells [x]) := by
  subst hv
  exact World.ownsRow_lit (base := base) (e := 5) (size := 1) w #[.int .u8 (x.toNat : Int)] 1 hb (by unfold maxLen; omega) rfl

/-- a slice literal of one byte, as a source -/
theorem Sl.lit_u8 (w : World) (x : UInt8) (v : Int) (hv : v = (x.toNat : Int)) : Sl (w.alloc (.cells #[.int .u8 v] 5)) 1 (some ⟨w.heap.size, 0, none⟩) 1 (Lib.byteCells [x]) := by
  obtain ⟨A, c, e, h⟩ := Sl.own (own_lit_u8 w w.heap.size (Nat.le_refl _) x v hv)
  injection e with e1 e2 e3
  subst e1
  exact h

theorem extract_bytes (l : List UInt8) (a b : Nat) : (⟨l.toArray⟩ : ByteArray).extract a b = ⟨((l.take b).drop a).toArray⟩ := by
  apply ByteArray.ext
  rw [ByteArray.data_extract]
  simp [List.drop_take]

theorem run_index_bytes (w : World) (l : List UInt8) (k : Nat) (hk : k < l.length) : (Instr.index 9 (.string ⟨l.toArray⟩) (.int .i64 (k : Int))).run Try.prog w = .ok (.int .u8 (l[k].toNat : Int)) w := by
  have e : (⟨l.toArray⟩ : ByteArray)[k]? = some l[k] := by
    rw [getElem?_pos (⟨l.toArray⟩ : ByteArray) k hk]; rfl
  simp [Instr.index, run_underlying Try.underlying9, asIntOf, e]

theorem bytes_beq (a b : ByteArray) : (a.toList == b.toList) = decide (a.data.toList = b.data.toList) := by
  rw [ByteArray.toList_eq, ByteArray.toList_eq]
  rw [Bool.eq_iff_iff]
  simp
theorem run_neq_str (w : World) (a b : ByteArray) : (binOp .neq 9 (.string a) (.string b)).run Try.prog w = .ok (.bool (!decide (a.data.toList = b.data.toList))) w := by
  simp [go_sem, bytes_beq]
theorem run_eql_str (w : World) (a b : ByteArray) : (binOp .eql 9 (.string a) (.string b)).run Try.prog w = .ok (.bool (decide (a.data.toList = b.data.toList))) w := by
  simp [go_sem, bytes_beq]

/-- []byte(s) -/
theorem run_bytes (w : World) (l : List UInt8) : ∃ cap W1, (convert 9 70 (.string ⟨l.toArray⟩)).run Try.prog w = .ok (.slice (some ⟨w.heap.size, 0, none⟩) l.length cap) W1 ∧ Below w.heap.size w W1 ∧
    (∀ k (hk : k < l.length), W1.cell? ⟨w.heap.size, k, none⟩ = some (.int .u8 (l[k].toNat : Int))) ∧ W1.heap.size = w.heap.size + 1 := by
  have h := run_bytes_of_string (P := Try.prog) w 9 70 5 ⟨l.toArray⟩ Try.underlying9 Try.underlying70 Try.underlying5
  have e : (⟨l.toArray⟩ : ByteArray).size = l.length := rfl
  rw [e] at h
  refine ⟨_, _, h, (Below.refl _ w).drew.alloc (Nat.le_refl _) _, ?_, by simp⟩
  intro k hk
  have := cell_of_row (w.drew.alloc (.cells (bytesRow ⟨l.toArray⟩ (grownCap w l.length 0 5)) 5 ((bytesRow ⟨l.toArray⟩ (grownCap w l.length 0 5)).size, (bytesRow ⟨l.toArray⟩ (grownCap w l.length 0 5)).size + 1))) w.heap.size k _ _ _ (heap_alloc_new w.drew _)
  rw [this]
  unfold bytesRow
  rw [Array.getElem?_append_left (by simpa using hk)]
  simp [hk]

theorem app_u8 (w : World) {ops : Array Oper} {rest : List Oper} {o : Oper} {a : Act} {Q : Exit → Act → World → Prop} (hgd : o.guard = none) (s x : Operand)
    (ho : o.op = .call { callee := .builtin .append, args := #[s, x], argTypes := #[70, 70] })
    (base : Nat) (v : Value) (n : Nat) (xs : List UInt8) (hs : a.eval s = v) (hown : w.ownsRow base 5 1 v n (Lib.byteCells xs))
    (A : Option Addr) (m c : Nat) (news : List UInt8) (hx : a.eval x = .slice A m c) (hr : Sl w 1 A m (Lib.byteCells news))
    (hbytes : n + m ≤ 140737488355328) (hbase : base ≤ w.heap.size)
    (h : ∀ v' w', w'.ownsRow base 5 1 v' (n + m) (Lib.byteCells (xs ++ news)) → w.grownBy w' v.ownBlock → (v'.ownBlock = v.ownBlock ∨ v'.ownBlock = some w.heap.size) → wpList Try.prog ops Q rest (a.put o.dst v') w') :
    wpList Try.prog ops Q (o :: rest) a w := by
  obtain ⟨i0, hi, hz0, hz1, hz2⟩ := info_parts info_u8
  refine wpList_app w hgd s x _ ho base 5 i0 (.int .u8 0) 1 1 Try.underlying70 hi hz0 hz1 hz2 rfl (by decide) v n _ hs hown A m c _ hx hr (cells_bytes_one _) (by unfold maxLen; omega) (by omega) hbase ?_
  intro v' w' h1 h2 h3
  rw [← cells_bytes_append] at h1
  exact h v' w' h1 h2 h3

theorem cells_bytes_set (l : List UInt8) (k : Nat) (c : UInt8) : (Lib.byteCells l).set k (.int .u8 (c.toNat : Int)) = Lib.byteCells (l.set k c) := by
  simp [Lib.byteCells, List.map_set]
end Go.Proofs.Ytljfolepmkcjlaa
