/-
  Texts that the claim leans on, one behind the other, part 6.
-/
import Derived.Test.YtljfolepmkcjlaaXk5
import Derived.Test.YtljfolepmkcjlaaChecked
import Derived.Lib.Builder
import Derived.Lib.UnsafeStr
import Derived.Lib.Hide
import Derived.RegionTactic
import Derived.WalkKit
import Derived.Laws.Externs
import Derived.Test.YtljfolepmkcjlaaShelf
import Derived.Lib.Bytealg
import Derived.IntWalk

/-
  The record layer's contracts for the abstract machine, out of the walks.
-/
namespace Go.Proofs.Ytljfolepmkcjlaa
open Go.RowKit Plain Am

def vD (v : Val) : DV := .agg [.int .u8 v.k, .int .i64 v.n, .str v.s]
def toVal : DV → Val
  | .agg [.int _ k, .int _ n, .str s] => ⟨k, n, s⟩
  | _ => ⟨0, 0, []⟩
def wfB (v : Val) : Bool := decide (0 ≤ v.k) && decide (v.k ≤ 255) && decide (-9223372036854775808 ≤ v.n) && decide (v.n ≤ 9223372036854775807)
def isVal : DV → Bool
  | .agg [.int .u8 k, .int .i64 n, .str s] => wfB ⟨k, n, s⟩
  | _ => false
def toRow (els : List DV) : List Val := els.map toVal
def okRow (els : List DV) : Bool := decide (els.length ≤ 65536) && els.all isVal

theorem wfB_iff (v : Val) : wfB v = true ↔ v.wf := by simp [wfB, Val.wf, and_assoc]

theorem isVal_spec {x : DV} (h : isVal x = true) : x = vD (toVal x) ∧ (toVal x).wf := by
  unfold isVal at h
  split at h
  · exact ⟨rfl, (wfB_iff _).1 h⟩
  · cases h
theorem toVal_vD (v : Val) : toVal (vD v) = v := rfl
theorem toRow_map (l : List Val) : toRow (l.map vD) = l := by
  induction l with
  | nil => rfl
  | cons v r ih =>
    simp only [toRow, List.map_cons, toVal_vD, List.cons.injEq, true_and]
    exact ih
theorem okRow_map {l : List Val} (hl : l.length ≤ 65536) (hw : ∀ v ∈ l, v.wf) : okRow (l.map vD) = true := by
  simp only [okRow, Bool.and_eq_true, decide_eq_true_eq, List.length_map, List.all_eq_true, List.mem_map]
  refine ⟨hl, ?_⟩
  rintro x ⟨v, hv, rfl⟩
  exact (wfB_iff v).2 (hw v hv)
theorem map_toRow : ∀ {els : List DV}, (∀ x ∈ els, isVal x = true) → els = (toRow els).map vD ∧ ∀ v ∈ toRow els, v.wf
  | [], _ => by simp [toRow]
  | x :: r, h => by
    obtain ⟨g1, g2⟩ := map_toRow (els := r) (fun y hy => h y (by simp [hy]))
    obtain ⟨e1, e2⟩ := isVal_spec (h x (by simp))
    refine ⟨?_, ?_⟩
    · show x :: r = vD (toVal x) :: (toRow r).map vD
      rw [← e1, ← g1]
    · intro v hv
      have : v ∈ toVal x :: toRow r := hv
      rcases List.mem_cons.1 this with rfl | hv
      · exact e2
      · exact g2 v hv
theorem okRow_spec {els : List DV} (h : okRow els = true) : els = (toRow els).map vD ∧ (∀ v ∈ toRow els, v.wf) ∧ (toRow els).length ≤ 65536 := by
  simp only [okRow, Bool.and_eq_true, decide_eq_true_eq, List.all_eq_true] at h
  obtain ⟨g1, g2⟩ := map_toRow h.2
  exact ⟨g1, g2, by simpa [toRow] using h.1⟩

theorem vD_cells (v : Val) : (vD v).cells = [.int .u8 v.k, .int .i64 v.n, .str v.s] := rfl

/-- A slice that reads as a row is one. -/
theorem row_of {κ : Kap} {w : World} {sz : Nat} {l : List Val} {full : Bool} {v : Value} (r : DR κ w.heap (.lst sz (l.map vD) full) v) : ∃ A c, v = .slice A l.length c ∧ Row w A l := by
  generalize he : l.map vD = els at r
  cases r with
  | lst0 hf =>
    have : l = [] := by simpa using he
    subst this
    exact ⟨_, _, rfl, Sl.nil w 3 _⟩
  | @lst _ _ _ b off cap c ty fz hκ hb hf hc hs hz hr =>
    subst he
    refine ⟨_, _, by rw [List.length_map], ⟨by rw [rowCells_length], fun h0 => ⟨b, off, rfl, fun j u hj => ?_⟩⟩⟩
    rw [cell_at hb]
    have hjl : j < l.length * 3 := by rw [← rowCells_length]; exact (List.getElem?_eq_some_iff.1 hj).1
    have hi : j / 3 < l.length := by omega
    have hx : (l.map vD)[j / 3]? = some (vD l[j / 3]) := by simp [hi]
    have hsz : sz = 3 := by
      have := (hz _ (List.mem_of_getElem? hx)).1
      simpa [vD_cells] using this.symm
    subst hsz
    obtain ⟨g0, g1, g2⟩ := rowCells_get l (j / 3) hi
    have hcs : off + j < c.size := by
      have : l.length ≤ cap := by simpa using hc
      omega
    have key : ∀ (t : Nat) (y : DV) (u' : Value), j = j / 3 * 3 + t → [DV.int .u8 l[j / 3].k, .int .i64 l[j / 3].n, .str l[j / 3].s][t]? = some y → (rowCells l)[j]? = some u' → y.one = some u' → c[off + j]? = some u := by
      intro t y u' hj2 hy hu hone
      rw [hj] at hu
      injection hu with hu
      subst hu
      have e : c[off + j]? = some c[off + j] := by simp [hcs]
      have := (hr (j / 3) _ t y c[off + j] hx (by rw [vD_cells]; exact hy) (by rw [show off + j / 3 * 3 + t = off + j by omega]; exact e)).one hone
      rw [e, this]
    have h3 : j = j / 3 * 3 + 0 ∨ j = j / 3 * 3 + 1 ∨ j = j / 3 * 3 + 2 := by omega
    rcases h3 with h3 | h3 | h3
    · exact key 0 _ _ h3 rfl ((congrArg (fun q => (rowCells l)[q]?) h3).trans g0) rfl
    · exact key 1 _ _ h3 rfl ((congrArg (fun q => (rowCells l)[q]?) h3).trans g1) rfl
    · exact key 2 _ _ h3 rfl ((congrArg (fun q => (rowCells l)[q]?) h3).trans g2) rfl

/-- A row as an argument: what a walk over every such row says. -/
theorem C_row {f : FuncId} {sz : Nat} {els : List DV} {full : Bool} {d : DV} {v : Value} (h0 : okRow els = true) (hd : d.flat = some v)
    (h : ∀ (A : Option Addr) (c : Nat) (w : World), Row w A (toRow els) → Calls Try.prog f #[.slice A (toRow els).length c] w fun e w' => e = .returned v ∧ Below w.heap.size w w') :
    C Try.prog f [.d (.lst sz els full)] [] (fun r o => r = .d d ∧ o = []) := by
  refine C_of_calls (args := [.lst sz els full]) fun κ w vs hk hl hr => ?_
  have hl1 : vs.size = 1 := by simpa using hl
  have e1 : vs[0]? = some vs[0] := by simp [show 0 < vs.size by omega]
  have r := hr 0 _ _ rfl e1
  rw [(okRow_spec h0).1] at r
  obtain ⟨A, c, hA, hR⟩ := row_of r
  have : vs = #[.slice A (toRow els).length c] := by
    apply Array.ext
    · simpa using hl
    · intro i hi hi2
      simp at hi2; subst hi2
      simpa using hA
  subst this
  refine (h A c w hR).mono ?_
  rintro e w' ⟨rfl, hB⟩
  exact ⟨v, κ, rfl, DR.of_flat hd, ⟨hB.size, hB.os, hB.output⟩, fun b hb => ⟨hB.block b hb, rfl⟩, fun b hb => Nat.lt_of_lt_of_le (hk b hb) hB.size⟩

def putD (l : List Val) : DV := .tup [.str (putRow l).1, .int .i64 (putRow l).2]
def gRow (k : List Val → DV) (c : List Val → Bool) : DV → Option (DV × List Bool)
  | .lst _ els _ => some (k (toRow els), [okRow els, c (toRow els)])
  | _ => none

theorem gRow_ok {f : FuncId} {k : List Val → DV} {c : List Val → Bool} (h : ∀ (l : List Val), l.length ≤ 65536 → (∀ v ∈ l, v.wf) → c l = true → ∃ v, (k l).flat = some v ∧
    ∀ (A : Option Addr) (c : Nat) (w : World), Row w A l → Calls Try.prog f #[.slice A l.length c] w fun e w' => e = .returned v ∧ Below w.heap.size w w') : EntOk Try.prog f (e1 (gRow k c)) := by
  refine e1_ok fun x y cs hg hc => ?_
  unfold gRow at hg
  split at hg
  · rename_i sz els full
    simp only [Option.some.injEq, Prod.mk.injEq] at hg
    obtain ⟨rfl, rfl⟩ := hg
    have h0 := hc _ (by simp : okRow els ∈ [okRow els, c (toRow els)])
    have h1 := hc _ (by simp : c (toRow els) ∈ [okRow els, c (toRow els)])
    obtain ⟨g1, g2, g3⟩ := okRow_spec h0
    obtain ⟨v, hv, hw⟩ := h _ g3 g2 h1
    exact C_row h0 hv hw
  · cases hg

theorem put_ent : EntOk Try.prog 55 (e1 (gRow putD fun _ => true)) :=
  gRow_ok fun l h1 h2 _ => ⟨_, rfl, fun A c w hr => put09_any A c l w hr h1 h2⟩
def sameG : DV → DV → Option (DV × List Bool)
  | .lst _ e1 _, .lst _ e2 _ => some (.bool (decide (toRow e1 = toRow e2)), [okRow e1, okRow e2])
  | _, _ => none
theorem same_ent : EntOk Try.prog 36 (e2 sameG) := by
  refine e2_ok fun x x2 y cs hg hc => ?_
  unfold sameG at hg
  split at hg
  · rename_i sz els full sz2 els2 full2
    simp only [Option.some.injEq, Prod.mk.injEq] at hg
    obtain ⟨rfl, rfl⟩ := hg
    have h0 := hc _ (by simp : okRow els ∈ [okRow els, okRow els2])
    have h1 := hc _ (by simp : okRow els2 ∈ [okRow els, okRow els2])
    obtain ⟨g1, g2, g3⟩ := okRow_spec h0
    obtain ⟨k1, k2, k3⟩ := okRow_spec h1
    refine C_of_calls (args := [.lst sz els full, .lst sz2 els2 full2]) fun κ w vs hk hl hr => ?_
    have hl2 : vs.size = 2 := by simpa using hl
    have q1 : vs[0]? = some vs[0] := by simp [show 0 < vs.size by omega]
    have q2 : vs[1]? = some vs[1] := by simp [show 1 < vs.size by omega]
    have r1 := hr 0 _ _ rfl q1
    have r2 := hr 1 _ _ rfl q2
    rw [g1] at r1
    rw [k1] at r2
    obtain ⟨A, c, hA, hR⟩ := row_of r1
    obtain ⟨A2, c2, hA2, hR2⟩ := row_of r2
    have : vs = #[.slice A (toRow els).length c, .slice A2 (toRow els2).length c2] := by
      apply Array.ext
      · simpa using hl
      · intro i hi hi2
        simp at hi2
        have : i = 0 ∨ i = 1 := by omega
        rcases this with rfl | rfl
        · simpa using hA
        · simpa using hA2
    subst this
    refine (same_any A A2 c c2 _ _ w hR hR2 g3).mono ?_
    rintro e w' ⟨rfl, hB⟩
    exact ⟨_, κ, rfl, .bool _, ⟨hB.size, hB.os, hB.output⟩, fun b hb => ⟨hB.block b hb, rfl⟩, fun b hb => Nat.lt_of_lt_of_le (hk b hb) hB.size⟩
  · cases hg

end Go.Proofs.Ytljfolepmkcjlaa

/-
  number.Take and record.Take for the abstract machine, out of the walks.
-/
namespace Go.Proofs.Ytljfolepmkcjlaa
open Go.RowKit Plain Am

def numG : DV → Option (DV × List Bool)
  | .str s => some (.tup [.int .u64 ((takeN s).1 : Nat), .int .i64 ((takeN s).2.1 : Nat), .int .i64 ((takeN s).2.2 : Nat)], [decide (s.length ≤ 2000000)])
  | _ => none
theorem num_ent : EntOk Try.prog 44 (e1 numG) := by
  refine e1_ok fun x y c hg hc => ?_
  unfold numG at hg
  split at hg
  · rename_i s
    simp only [Option.some.injEq, Prod.mk.injEq] at hg
    obtain ⟨rfl, rfl⟩ := hg
    have h0 : s.length ≤ 2000000 := by simpa using hc (decide (s.length ≤ 2000000)) (by simp)
    exact C_flat (args := [.str s]) (us := [.string ⟨s.toArray⟩]) rfl rfl fun w => take_any s w h0
  · cases hg
/-- A new row as data. -/
theorem newRow_val {κ : Kap} {w w' : World} {e : TypeId} {v : Value} {l : List Val} (ho : w'.ownsRow w.heap.size e 3 v l.length (rowCells l)) (hk : ∀ b, κ b ≠ .oth → b < w.heap.size) (hs : w.heap.size ≤ w'.heap.size) :
    DR (newImm κ v) w'.heap (.lst 3 (l.map vD) false) v ∧ (∀ b, b < w.heap.size → newImm κ v b = κ b) ∧ (∀ b, newImm κ v b ≠ .oth → b < w'.heap.size) := by
  refine Am.newRow ho (by simp) ?_ ?_ hk hs
  · intro x hx
    obtain ⟨v, _, rfl⟩ := List.mem_map.1 hx
    refine ⟨rfl, fun y hy => ?_⟩
    simp only [vD_cells, List.mem_cons, List.not_mem_nil, or_false] at hy
    rcases hy with rfl | rfl | rfl <;> rfl
  · intro i x j y u hi hj hu
    have hil : i < l.length := by have := (List.getElem?_eq_some_iff.1 hi).1; simpa using this
    have : x = vD l[i] := by simp [hil] at hi; exact hi.symm
    subst this
    obtain ⟨g0, g1, g2⟩ := rowCells_get l i hil
    rw [vD_cells] at hj
    match j, hj with
    | 0, hj => simp at hj; subst hj; rw [Nat.add_zero, g0] at hu; injection hu with hu; subst hu; rfl
    | 1, hj => simp at hj; subst hj; rw [g1] at hu; injection hu with hu; subst hu; rfl
    | 2, hj => simp at hj; subst hj; rw [g2] at hu; injection hu with hu; subst hu; rfl
    | j + 3, hj => simp at hj

def rowD (s : Bs) : List Val := (takeRow s).getD []
def takeG : DV → Option (DV × List Bool)
  | .str s => some (.tup [.lst 3 ((rowD s).map vD) false, .int .i64 (if takeRow s = none then 7 else 0)], [decide (s.length ≤ 1048576)])
  | _ => none
theorem take_ent : EntOk Try.prog 46 (e1 takeG) := by
  refine e1_ok fun x y cs hg hc => ?_
  unfold takeG at hg
  split at hg
  · rename_i s
    simp only [Option.some.injEq, Prod.mk.injEq] at hg
    obtain ⟨rfl, rfl⟩ := hg
    have h0 := hc _ (by simp : decide (s.length ≤ 1048576) ∈ [decide (s.length ≤ 1048576)])
    simp only [decide_eq_true_eq] at h0
    refine C_of_calls (args := [.str s]) fun κ w vs hk hl hr => ?_
    have hl1 : vs.size = 1 := by simpa using hl
    have e1 : vs[0]? = some vs[0] := by simp [show 0 < vs.size by omega]
    have r := (hr 0 _ _ rfl e1).flat rfl
    have : vs = #[.string ⟨s.toArray⟩] := by
      apply Array.ext
      · simpa using hl
      · intro i hi hi2
        simp at hi2; subst hi2
        simpa using r
    subst this
    refine (tk_any s w h0).mono ?_
    rintro e w' ⟨v, rfl, ho, hB⟩
    obtain ⟨p1, p2, p3⟩ := newRow_val ho hk hB.size
    refine ⟨_, newImm κ v, rfl, .tup rfl (fun i x u hx hu => ?_), ⟨hB.size, hB.os, hB.output⟩, fun b hb => ⟨hB.block b hb, p2 b hb⟩, p3⟩
    match i, hx, hu with
    | 0, hx, hu => simp at hx hu; subst hx; subst hu; exact p1
    | 1, hx, hu => simp at hx hu; subst hx; subst hu; exact .int _ _
    | i + 2, hx, hu => simp at hx
  · cases hg
end Go.Proofs.Ytljfolepmkcjlaa

/-
  strings.Builder for the abstract machine: copyCheck and String by contracts; the other methods are run.
-/
namespace Go.Proofs.Ytljfolepmkcjlaa
open Go.RowKit Am
set_option maxRecDepth 100000

theorem bT_size : (Try.prog.info? 72).map (fun i => decide (i.size ≠ 0)) = some true := by kernel_rfl
theorem bT_lies : liesAt Try.prog Try.prog.depth 72 (2 / Try.prog.cellsOf 72) 0 72 1 = true := by kernel_rfl
theorem cellsU8 : Try.prog.cellsOf 5 = 1 := by kernel_rfl

set_option maxHeartbeats 1000000 in
theorem ccUsed (b : Nat) (w : World) (h0 : w.cell? ⟨b, 0, none⟩ = some (.pointer (some ⟨b, 0, none⟩))) :
    Calls Try.prog 75 #[.pointer (some ⟨b, 0, none⟩)] w fun e w' => e = .returned (.tuple #[]) ∧ w' = w := by
  obtain ⟨j, hj, _⟩ := Option.map_eq_some_iff.1 bT_size
  go_enter Try.func75, Try.ntmps75
  go_wp2
  rw [Lib.run_neq_ptr_same w _ Try.underlying69 hj]
  go_wp2
  go_end0
  exact ⟨rfl, rfl⟩

set_option maxHeartbeats 1000000 in
theorem ccFresh (b : Nat) (w : World) (h0 : w.cell? ⟨b, 0, none⟩ = some (.pointer none)) (hsh : w.shape? b = some (72, 2)) (hfz : w.frozen? ⟨b, 0, none⟩ = false) :
    Calls Try.prog 75 #[.pointer (some ⟨b, 0, none⟩)] w fun e w' => e = .returned (.tuple #[]) ∧ w' = w.setCell ⟨b, 0, none⟩ (.pointer (some ⟨b, 0, none⟩)) := by
  obtain ⟨j, hj, hjs⟩ := Option.map_eq_some_iff.1 bT_size
  go_enter Try.func75, Try.ntmps75
  go_wp2
  rw [Lib.run_to_unsafe w ⟨b, 0, none⟩ Try.underlying69 Try.underlying103 hj (by simpa using hjs) hsh (Nat.zero_lt_succ 1)]
  simp only [Result.andThen]
  rw [Oper.upon_value]
  go_wp2
  rw [run_callFunc_extern Try.func89 (by kernel_rfl) (by kernel_rfl) (by kernel_rfl) (e := Extern.AbiNoEscape.same) (by kernel_rfl)]
  rw [Lib.run_noEscape]
  simp only [Result.andThen]
  rw [Oper.upon_value]
  go_wp2
  rw [Lib.run_from_unsafe w ⟨b, 0, none⟩ Try.underlying103 Try.underlying69 hj hsh bT_lies]
  simp only [Result.andThen]
  rw [Oper.upon_value]
  go_wp2
  go_end0
  exact ⟨rfl, rfl⟩

set_option maxHeartbeats 2000000 in
theorem strWalk (b g cap n0 : Nat) (l : List UInt8) (p : Value) (w : World) (Q : World → Prop) (fz : Nat × Nat) (cur : Array Value) (hne : l ≠ []) (hcap : l.length ≤ cap) (h63 : l.length ≤ 9223372036854775807)
    (hb : w.heap[b]? = some (.cells #[p, .slice (some ⟨g, 0, none⟩) l.length cap] 72 (0, 0))) (hg : w.heap[g]? = some (.cells cur 5 fz)) (hsz : cur.size = n0) (hn0 : l.length ≤ n0)
    (hcell : ∀ (j : Nat) (y : UInt8), l[j]? = some y → w.cell? ((⟨g, 0, none⟩ : Addr).add j) = some (.int .u8 y.toNat)) (hQ : Q (w.drew.freeze ⟨g, 0, none⟩ l.length)) :
    Calls Try.prog 56 #[.pointer (some ⟨b, 0, none⟩)] w fun e w' => e = .returned (.string ⟨l.toArray⟩) ∧ Q w' := by
  have hpos : 0 < l.length := List.length_pos_iff.2 hne
  have c1 : w.drew.cell? ⟨b, 1, none⟩ = some (.slice (some ⟨g, 0, none⟩) l.length cap) := by
    have : w.drew.heap[b]? = some (.cells #[p, .slice (some ⟨g, 0, none⟩) l.length cap] 72 (0, 0)) := hb
    rw [Lib.cell_of_heap this]; rfl
  have hSD : (Builtin.unsafeSliceData_ #[70] 97 #[.slice (some ⟨g, 0, none⟩) l.length cap]).run Try.prog w.drew = .ok (.pointer (some ⟨g, 0, none⟩)) w.drew :=
    Lib.run_unsafeSliceData_row _ _ _ _ _ _ (by omega)
  have hUS : (Builtin.unsafeString_ #[97, 3] 9 #[.pointer (some ⟨g, 0, none⟩), .int .i64 l.length]).run Try.prog w.drew = .ok (.string ⟨l.toArray⟩) (w.drew.freeze ⟨g, 0, none⟩ l.length) :=
    Lib.run_unsafeString_row w.drew _ _ _ 5 Try.underlying97 cellsU8 g cur.size (by have hg' : w.drew.heap[g]? = some (.cells cur 5 fz) := hg; simp [World.shape?, hg']) l hne (by omega) h63 hcell
  have HQ := Lib.hid hQ
  clear hQ hcell hg hb hsz hn0 hcap h63 hne hpos
  go_enter Try.func56, Try.ntmps56
  go_wp2
  go_region
  all_goals (go_wp2; go_ret; exact ⟨rfl, HQ.out⟩)

set_option maxHeartbeats 2000000 in
theorem strNone (b : Nat) (p : Value) (w : World) (Q : World → Prop) (hb : w.heap[b]? = some (.cells #[p, .slice none 0 0] 72 (0, 0))) (hQ : Q w.drew) :
    Calls Try.prog 56 #[.pointer (some ⟨b, 0, none⟩)] w fun e w' => e = .returned (.string ⟨#[]⟩) ∧ Q w' := by
  have hUS : ∀ W : World, (Builtin.unsafeString_ #[97, 3] 9 #[.pointer none, .int .i64 0]).run Try.prog W = .ok (.string .empty) W := fun W => Lib.run_unsafeString_none W _ _ _ none
  have c1 : w.drew.cell? ⟨b, 1, none⟩ = some (.slice none 0 0) := by
    have : w.drew.heap[b]? = some (.cells #[p, .slice none 0 0] 72 (0, 0)) := hb
    rw [Lib.cell_of_heap this]; rfl
  have hSD : (Builtin.unsafeSliceData_ #[70] 97 #[.slice none 0 0]).run Try.prog w.drew = .ok (.pointer none) w.drew := rfl
  have HQ := Lib.hid hQ
  clear hb hQ
  go_enter Try.func56, Try.ntmps56
  go_wp2
  go_region
  all_goals (go_wp2; go_ret; exact ⟨rfl, HQ.out⟩)

theorem two_cells {c : Array Value} (h : c.size = 2) : ∃ x y, c = #[x, y] := by
  refine ⟨c[0], c[1], ?_⟩
  apply Array.ext
  · simpa using h
  · intro i h1 h2
    have : i = 0 ∨ i = 1 := by simp at h2; omega
    rcases this with rfl | rfl <;> rfl

/-- What a call finds, as a state. -/
theorem frel_of {κ : Kap} {φ : Phi} {w : World} {objs : List PObj} (h1 : ∀ i, OR κ φ (tabOf objs) w.heap i (tabOf objs i)) (h2 : ∀ b, κ b ≠ .oth → b < w.heap.size) :
    FRel κ φ w { n := 0, R := fun _ => .bot, O := tabOf objs } { tmps := #[], defers := [] } := ⟨fun _ => .bot _, h1, h2, rfl, rfl⟩

theorem tab_set0 (p q : PObj) (r : List PObj) : setT (tabOf (p :: r)) 0 (some q) = tabOf (q :: r) := by
  funext i
  cases i with
  | zero => simp [setT, tabOf]
  | succ i => simp [setT, tabOf]
theorem tab_set1 (p q q' : PObj) (r : List PObj) : setT (tabOf (p :: q :: r)) 1 (some q') = tabOf (p :: q' :: r) := by
  funext i
  match i with
  | 0 => simp [setT, tabOf]
  | 1 => simp [setT, tabOf]
  | i + 2 => simp [setT, tabOf]

theorem copy_c (x y : RV) (r : List PObj) (hx : x = .d .nilp ∨ x = .ptr 0 0) : C Try.prog 75 [.ptr 0 0] (.box 72 [x, y] :: r) (fun v o => v = .d (.tup []) ∧ o = .box 72 [.ptr 0 0, y] :: r) := by
  intro κ φ w vs h1 h2 h3 h4
  have hs : vs.size = 1 := by simpa using h3
  have e1 : vs[0]? = some vs[0] := by simp [show 0 < vs.size by omega]
  have r0 := h4 0 _ _ rfl e1
  have hvs : vs = #[vs[0]] := by
    apply Array.ext
    · simpa using hs
    · intro i hi hi2; simp at hi2; subst hi2; rfl
  rw [hvs]
  generalize vs[0] = v0 at r0
  clear e1 hvs
  cases r0 with
  | ptr hφ =>
  rename_i b
  have ho := h1 0
  have et : tabOf (PObj.box 72 [x, y] :: r) 0 = some (.box 72 [x, y]) := rfl
  rw [et] at ho
  obtain ⟨b', c, g1, g2, g3, g4, g5, g6⟩ := ho
  rw [g1] at hφ; injection hφ with hφ; subst hφ
  obtain ⟨c0, c1, rfl⟩ := two_cells (by simpa using g4)
  have q0 := g6 0 x c0 rfl rfl
  have q1 := g6 1 y c1 rfl rfl
  have F := frel_of h1 h2
  rcases hx with rfl | rfl
  · cases q0 with
    | d hr =>
    cases hr
    refine (ccFresh b' w (by rw [Lib.cell_of_heap g3]; rfl) (by simp [World.shape?, g3]) (Lib.frozen_of_heap g3 0)).mono ?_
    rintro e w' ⟨rfl, rfl⟩
    rw [setCell_row g3]
    obtain ⟨p1, p2, p3⟩ := F.write (i := 0) (p := .box 72 [.ptr 0 0, y]) (o := .cells #[.pointer (some ⟨b', 0, none⟩), c1] 72 (0, 0)) g2 g1
      (fun c ty fz hh => by rw [g3] at hh; injection hh with hh; injection hh with a1 a2 a3; subst a1; subst a2; exact ⟨_, _, rfl, rfl⟩) (fun n hn => by simp [PObj.len?] at hn)
      (fun M => ⟨b', _, g1, g2, row_heap g3, rfl, fun v hv => by
        simp at hv
        rcases hv with rfl | rfl
        · rfl
        · exact g5 _ (by simp), fun j x v hx hv => by
        match j, hx, hv with
        | 0, hx, hv => simp at hx hv; subst hx; subst hv; exact .ptr g1
        | 1, hx, hv => simp at hx hv; subst hx; subst hv; exact q1.mono M
        | j + 2, hx, hv => simp at hx⟩)
    have et2 : setT (tabOf (PObj.box 72 [.d .nilp, y] :: r)) 0 (some (.box 72 [.ptr 0 0, y])) = tabOf (.box 72 [.ptr 0 0, y] :: r) := tab_set0 _ _ _
    simp only [et2] at p1 p2
    exact ⟨_, _, _, κ, φ, rfl, ⟨rfl, rfl⟩, .d (.tup rfl (by simp)), p1.objs, p1.bnd, by simp, p3, p2.kp⟩
  · cases q0 with
    | ptr hp =>
    rename_i b2
    have : b2 = b' := by rw [g1] at hp; injection hp with hp; exact hp.symm
    subst this
    refine (ccUsed b2 w (by rw [Lib.cell_of_heap g3]; rfl)).mono ?_
    rintro e w' ⟨rfl, rfl⟩
    exact ⟨_, _, _, κ, φ, rfl, ⟨rfl, rfl⟩, .d (.tup rfl (by simp)), h1, h2, by simp, Fr.refl _ _, Kp.refl _ _⟩

def isB : DV → Bool
  | .int .u8 n => decide (0 ≤ n ∧ n < 256)
  | _ => false
theorem isB_spec {x : DV} (h : isB x = true) : x = .int .u8 (x.byte.toNat : Int) := by
  unfold isB at h
  split at h
  · rename_i n
    simp only [decide_eq_true_eq] at h
    simp only [DV.byte, DV.int.injEq, true_and]
    have : n.toNat < 256 := by omega
    rw [UInt8.toNat_ofNat_of_lt' (by simpa using this)]; omega
  · cases h
theorem isB_scal {x : DV} (h : isB x = true) : x.cells = [x] := by rw [isB_spec h]; rfl

theorem str_c (p : RV) (els : List DV) (r : List PObj) (hb : els.all isB = true) (hne : els ≠ []) (hbig : els.length ≤ 1099511627776) : C Try.prog 56 [.ptr 0 0] (.box 72 [p, .own 1 1] :: .arr 5 1 els :: r)
    (fun v o => v = .d (.str (els.map DV.byte)) ∧ o = .box 72 [p, .own 1 1] :: .gone :: r) := by
  intro κ φ w vs h1 h2 h3 h4
  have hs : vs.size = 1 := by simpa using h3
  have e1 : vs[0]? = some vs[0] := by simp [show 0 < vs.size by omega]
  have r0 := h4 0 _ _ rfl e1
  have hvs : vs = #[vs[0]] := by
    apply Array.ext
    · simpa using hs
    · intro i hi hi2; simp at hi2; subst hi2; rfl
  rw [hvs]
  generalize vs[0] = v0 at r0
  clear e1 hvs
  cases r0 with
  | ptr hφ =>
  rename_i b
  have ho := h1 0
  have et : tabOf (PObj.box 72 [p, .own 1 1] :: .arr 5 1 els :: r) 0 = some (.box 72 [p, .own 1 1]) := rfl
  rw [et] at ho
  obtain ⟨b', c, g1, g2, g3, g4, g5, g6⟩ := ho
  rw [g1] at hφ; injection hφ with hφ; subst hφ
  obtain ⟨c0, c1, rfl⟩ := two_cells (by simpa using g4)
  have q1 := g6 1 (.own 1 1) c1 rfl rfl
  have ho1 := h1 1
  have et1 : tabOf (PObj.box 72 [p, .own 1 1] :: .arr 5 1 els :: r) 1 = some (.arr 5 1 els) := rfl
  rw [et1] at ho1
  rcases ho1 with ⟨_, k⟩ | ⟨g, cur, fz, k1, k2, k3, k4, k5⟩
  · exact absurd k hne
  · cases q1 with
    | ownNil hp => rw [k1] at hp; cases hp
    | own hp hb0 hcap hlc hlen =>
      rename_i g' len cap c' ty' fz'
      have : g' = g := by rw [k1] at hp; injection hp with hp; exact hp.symm
      subst this
      have hl := hlen els.length (by rw [et1]; rfl)
      subst hl
      rw [k3] at hb0; injection hb0 with hb0; injection hb0 with a1 a2 a3; subst a1; subst a2; subst a3
      have hlm : (els.map DV.byte).length = els.length := by simp
      have F := frel_of h1 h2
      obtain ⟨k51, k52, k53⟩ := k5
      have hcells : ∀ (j : Nat) (y : UInt8), (els.map DV.byte)[j]? = some y → w.cell? ((⟨g', 0, none⟩ : Addr).add j) = some (.int .u8 y.toNat) := by
        intro j y hy
        have hj : j < els.length := by simpa using (List.getElem?_eq_some_iff.1 hy).1
        have hx : els[j]? = some els[j] := by simp [hj]
        have hB := List.all_eq_true.1 hb els[j] (by simp)
        have hcj : cur[j]? = some cur[j] := by simp [show j < cur.size by omega]
        have hd := k53 j _ 0 els[j] cur[j] hx (by rw [isB_scal hB]; rfl) (by simp [hcj])
        rw [isB_spec hB] at hd
        rw [add_at, Am.cell_at k3, Nat.zero_add, hcj]
        have hyy : y = els[j].byte := by simp [hj] at hy; exact hy.symm
        subst hyy
        generalize cur[j] = cv at hd
        cases hd; rfl
      have hw' : ∀ (k : Nat), k ≠ g' → (w.drew.freeze ⟨g', 0, none⟩ els.length).heap[k]? = w.heap[k]? := by
        intro k hk
        unfold World.freeze
        split
        · rfl
        · simp only [Array.getElem?_modify]
          rw [if_neg (fun e => hk e.symm)]; rfl
      have hwg : ∃ fz2, (w.drew.freeze ⟨g', 0, none⟩ els.length).heap[g']? = some (.cells cur 5 fz2) := by
        have k3' : w.drew.heap[g']? = some (.cells cur 5 fz) := k3
        unfold World.freeze
        split
        · exact ⟨_, k3'⟩
        · simp only [Array.getElem?_modify, k3']
          simp
      have hsz : (w.drew.freeze ⟨g', 0, none⟩ els.length).heap.size = w.heap.size := by unfold World.freeze; split <;> simp
      have hos : (w.drew.freeze ⟨g', 0, none⟩ els.length).os = w.os ∧ (w.drew.freeze ⟨g', 0, none⟩ els.length).output = w.output := by unfold World.freeze; split <;> exact ⟨rfl, rfl⟩
      refine (strWalk b' g' cap cur.size (els.map DV.byte) c0 w (fun w' => w' = w.drew.freeze ⟨g', 0, none⟩ els.length) fz cur (by simpa using hne) (by rw [hlm]; exact hlc) (by rw [hlm]; omega) (by rw [hlm]; exact g3) k3 rfl (by rw [hlm]; omega) hcells (by rw [hlm])).mono ?_
      rintro e w' ⟨rfl, rfl⟩
      obtain ⟨fz2, hwg⟩ := hwg
      obtain ⟨p1, p2, p3⟩ := F.upd1 (i := 1) (p := .gone) (κ' := κ) (φ' := φ) (w' := w.drew.freeze ⟨g', 0, none⟩ els.length) (by omega) (fun _ h => h) (fun _ _ _ _ h => h) (fun _ _ h => h)
        (fun k _ hk _ => hw' k (fun e => by subst e; exact hk k2)) (fun _ _ => rfl) (fun _ => rfl)
        (fun k c ty fz hk => by
          by_cases e : k = g'
          · subst e; rw [k3] at hk; injection hk with hk; injection hk with a1 a2 a3; subst a1; subst a2; exact ⟨_, _, hwg, rfl⟩
          · exact ⟨c, fz, by rw [hw' k e]; exact hk, rfl⟩) (fun _ n hn => by simp [PObj.len?] at hn) (fun k hk => by rw [hsz]; exact h2 k hk) (fun _ => trivial) hos
      have et2 : setT (tabOf (PObj.box 72 [p, .own 1 1] :: .arr 5 1 els :: r)) 1 (some .gone) = tabOf (.box 72 [p, .own 1 1] :: .gone :: r) := tab_set1 _ _ _ _
      simp only [et2] at p1 p2
      exact ⟨_, _, _, κ, φ, rfl, ⟨rfl, rfl⟩, .d (.str _), p1.objs, p1.bnd, by simp, p3, p2.kp⟩

theorem str0_c (p : RV) (r : List PObj) : C Try.prog 56 [.ptr 0 0] (.box 72 [p, .d (.lst 0 [] true)] :: r)
    (fun v o => v = .d (.str []) ∧ o = .box 72 [p, .d (.lst 0 [] true)] :: r) := by
  intro κ φ w vs h1 h2 h3 h4
  have hs : vs.size = 1 := by simpa using h3
  have e1 : vs[0]? = some vs[0] := by simp [show 0 < vs.size by omega]
  have r0 := h4 0 _ _ rfl e1
  have hvs : vs = #[vs[0]] := by
    apply Array.ext
    · simpa using hs
    · intro i hi hi2; simp at hi2; subst hi2; rfl
  rw [hvs]
  generalize vs[0] = v0 at r0
  clear e1 hvs
  cases r0 with
  | ptr hφ =>
  rename_i b
  have ho := h1 0
  have et : tabOf (PObj.box 72 [p, .d (.lst 0 [] true)] :: r) 0 = some (.box 72 [p, .d (.lst 0 [] true)]) := rfl
  rw [et] at ho
  obtain ⟨b', c, g1, g2, g3, g4, g5, g6⟩ := ho
  rw [g1] at hφ; injection hφ with hφ; subst hφ
  obtain ⟨c0, c1, rfl⟩ := two_cells (by simpa using g4)
  have q1 := g6 1 (.d (.lst 0 [] true)) c1 rfl rfl
  cases q1 with
  | d hr =>
  have hc1 : c1 = .slice none 0 0 := by
    cases hr with
    | lst0 hf => have := hf rfl; rw [this.1, this.2 rfl]
    | lst _ _ hf _ _ _ _ => have := (hf rfl).2; omega
  subst hc1
  have F := frel_of h1 h2
  refine (strNone b' c0 w (fun w' => w' = w.drew) g3 rfl).mono ?_
  rintro e w' ⟨rfl, rfl⟩
  exact ⟨_, _, _, κ, φ, rfl, ⟨rfl, rfl⟩, .d (.str _), h1, h2, by simp, ⟨Nat.le_refl _, fun _ hb => ⟨hb, rfl⟩, fun _ _ hb => ⟨hb, rfl⟩, fun _ c _ fz hc => ⟨c, fz, hc, rfl⟩, rfl, rfl⟩, Kp.refl _ _⟩

def isPtrOr : RV → Bool
  | .d .nilp => true
  | .ptr 0 0 => true
  | _ => false
def copyE : Ent := fun a o => match a, o with
  | [.ptr 0 0], .box T [x, y] :: r => bif Nat.beq T 72 && isPtrOr x then some (.d (.tup []), .box T [.ptr 0 0, y] :: r, []) else none
  | _, _ => none
theorem copy_ent : EntOk Try.prog 75 copyE := by
  intro a o r o' c hg _
  unfold copyE at hg
  split at hg
  · rename_i T x y rr
    cases hb : (Nat.beq T 72 && isPtrOr x) with
    | false => rw [hb] at hg; simp at hg
    | true =>
      rw [hb] at hg; simp only [cond_true, Option.some.injEq, Prod.mk.injEq] at hg
      obtain ⟨rfl, rfl, rfl⟩ := hg
      simp only [Bool.and_eq_true] at hb
      have := nbE hb.1; subst this
      refine copy_c x y rr ?_
      have := hb.2
      unfold isPtrOr at this
      split at this
      · exact .inl rfl
      · exact .inr rfl
      · cases this
  · cases hg
def strE : Ent := fun a o => match a, o with
  | [.ptr 0 0], .box T [p, .own 1 1] :: .arr E 1 els :: r => bif Nat.beq T 72 && Nat.beq E 5 then some (.d (.str (els.map DV.byte)), .box T [p, .own 1 1] :: .gone :: r, [els.all isB, !els.isEmpty, decide (els.length ≤ 1099511627776)]) else none
  | [.ptr 0 0], .box T [p, .d (.lst 0 [] true)] :: r => bif Nat.beq T 72 then some (.d (.str []), .box T [p, .d (.lst 0 [] true)] :: r, []) else none
  | _, _ => none
theorem str_ent : EntOk Try.prog 56 strE := by
  intro a o r o' c hg hc
  unfold strE at hg
  split at hg
  · rename_i T p E els rr
    cases hb : (Nat.beq T 72 && Nat.beq E 5) with
    | false => rw [hb] at hg; simp at hg
    | true =>
      rw [hb] at hg; simp only [cond_true, Option.some.injEq, Prod.mk.injEq] at hg
      obtain ⟨rfl, rfl, rfl⟩ := hg
      simp only [Bool.and_eq_true] at hb
      have := nbE hb.1; subst this
      have := nbE hb.2; subst this
      have h0 := hc _ (by simp : els.all isB ∈ [els.all isB, !els.isEmpty, decide (els.length ≤ 1099511627776)])
      have h1 := hc _ (by simp : (!els.isEmpty) ∈ [els.all isB, !els.isEmpty, decide (els.length ≤ 1099511627776)])
      have h2 := hc _ (by simp : decide (els.length ≤ 1099511627776) ∈ [els.all isB, !els.isEmpty, decide (els.length ≤ 1099511627776)])
      exact str_c p els rr h0 (by rintro rfl; simp at h1) (by simpa using h2)
  · rename_i T p rr
    cases hb : Nat.beq T 72 with
    | false => rw [hb] at hg; simp at hg
    | true =>
      rw [hb] at hg; simp only [cond_true, Option.some.injEq, Prod.mk.injEq] at hg
      obtain ⟨rfl, rfl, rfl⟩ := hg
      have := nbE hb; subst this
      exact str0_c p rr
  · cases hg
end Go.Proofs.Ytljfolepmkcjlaa

/-
  strings.Compare for the abstract machine, out of the shelf's contract.
-/
namespace Go.Proofs.Ytljfolepmkcjlaa
open Go.RowKit Am

def cmpE : DV → DV → Option (DV × List Bool)
  | .str s, .str t => some (.int .i64 (Lib.compareBytes s t), [])
  | _, _ => none
theorem cmp_ent : EntOk Try.prog 61 (e2 cmpE) := by
  refine e2_ok fun x x2 y c hg hc => ?_
  unfold cmpE at hg
  split at hg
  · rename_i s t
    simp only [Option.some.injEq, Prod.mk.injEq] at hg
    obtain ⟨rfl, rfl⟩ := hg
    refine C_flat (args := [.str s, .str t]) (us := [.string ⟨s.toArray⟩, .string ⟨t.toArray⟩]) (v := .int .i64 (Lib.compareBytes s t)) rfl rfl fun w => ?_
    refine (Try.strings_Compare ⟨s.toArray⟩ ⟨t.toArray⟩ w).mono ?_
    rintro e w' ⟨rfl, rfl⟩
    exact ⟨rfl, Below.refl _ _⟩
  · cases hg
end Go.Proofs.Ytljfolepmkcjlaa

/-
  What closed runs lean on: the contracts of strings.Builder, strings.Compare; all else is run.
-/
namespace Go.Proofs.Ytljfolepmkcjlaa
open Go.RowKit Am
set_option maxRecDepth 100000

noncomputable def tb : List (Nat × Ent) := [(75, copyE), (56, strE), (61, e2 cmpE)]
theorem tb_ok : EntsOk Try.prog tb := .cons copy_ent (.cons str_ent (.cons cmp_ent .nil))
def brf : Nat → Bool := fun f => ![56, 61].any (Nat.beq f)

theorem mixed : Try.prog.follows .mixedOrders = true := by kernel_rfl
noncomputable abbrev cok : Nat → Bool := fun f => callOk Try.prog f
def isTrue : Option (RV × List PObj × List Bool) → Bool
  | some (.d (.bool true), [], c) => c.all id
  | _ => false
theorem of_isTrue {K : Kon} (hk : KSound Try.prog K) {f : Nat} {args : List RV} (h : isTrue (K f args []) = true) : C Try.prog f args [] (fun r o => r = .d (.bool true) ∧ o = []) := by
  unfold isTrue at h
  split at h
  · rename_i c e
    exact hk.use c e h
  · cases h
theorem lay_ok (l : List (Nat × Ent)) (h : EntsOk Try.prog l) (b : Nat → Bool) (n k d : Nat) : KSound Try.prog (layer Try.prog (konOf l) b cok n k d) := layer_ok mixed (konOf_ok h) (fun _ h => h) d
theorem own : ownKnob Try.prog.godebug = none := by kernel_rfl
theorem laid : laidOutB Try.prog = true := by kernel_rfl
end Go.Proofs.Ytljfolepmkcjlaa

/-
  Plain facts about changes: their order, which changesets may be, one set upon the other. No program in sight.
-/
namespace Go.Proofs.Ytljfolepmkcjlaa.Plain

structure Chg where
  t : Bs
  k : List Val
  o : List Val
  n : List Val
  deriving DecidableEq

def cmpI (a b : Int) : Int := if a < b then -1 else if a > b then 1 else 0
def cmpS (s t : Bs) : Int := Go.Lib.compareBytes s t
def cmpV (a b : Val) : Int := if a.k < b.k then -1 else if a.k > b.k then 1 else if a.k = 1 then cmpI a.n b.n else if a.k = 2 ∨ a.k = 3 then cmpS a.s b.s else 0
def cmpR : List Val → List Val → Int
  | [], [] => 0
  | [], _ :: _ => -1
  | _ :: _, [] => 1
  | a :: r, b :: q => if cmpV a b = 0 then cmpR r q else cmpV a b
def cmpC (a b : Chg) : Int := if cmpS a.t b.t = 0 then cmpR a.k b.k else cmpS a.t b.t

/-- may a row be put? -/
def rowB (l : List Val) : Bool := decide ((putRow l).2 = 0)
def mayC (c : Chg) : Bool := decide (1 ≤ c.t.length) && decide (c.t.length ≤ 32) && decide (1 ≤ c.k.length) && !decide (c.o = c.n) && rowB c.k && rowB c.o && rowB c.n
/-- each may be, and each stands behind the one before it -/
def mayI : Option Chg → List Chg → Bool
  | _, [] => true
  | p, x :: r => mayC x && (match p with | none => true | some y => decide (cmpC y x < 0)) && mayI (some x) r
def mayL (l : List Chg) : Bool := decide (l.length ≤ 1000) && mayI none l

/-! ### The order -/
theorem cmpI_anti (a b : Int) : cmpI b a = - cmpI a b := by unfold cmpI; split <;> split <;> (try split) <;> omega
theorem cmpI_eq {a b : Int} (h : cmpI a b = 0) : a = b := by unfold cmpI at h; split at h <;> (try split at h) <;> omega
theorem cmpI_lt {a b : Int} : cmpI a b < 0 ↔ a < b := by unfold cmpI; split <;> (try split) <;> omega

theorem cmpS_self : ∀ (s : Bs), cmpS s s = 0
  | [] => rfl
  | a :: r => by
    show Go.Lib.compareBytes (a :: r) (a :: r) = 0
    rw [Go.Lib.compareBytes, if_neg (UInt8.lt_irrefl a), if_neg (UInt8.lt_irrefl a)]
    exact cmpS_self r
theorem cmpS_anti : ∀ (s t : Bs), cmpS t s = - cmpS s t
  | [], [] => rfl
  | [], _ :: _ => rfl
  | _ :: _, [] => rfl
  | a :: r, b :: q => by
    have ih := cmpS_anti r q
    simp only [cmpS, Go.Lib.compareBytes] at *
    have := @UInt8.lt_asymm a b
    by_cases h1 : a < b
    · simp [h1, this h1]
    · by_cases h2 : b < a
      · simp [h1, h2]
      · simp [h1, h2, ih]
theorem cmpS_eq : ∀ {s t : Bs}, cmpS s t = 0 → s = t
  | [], [], _ => rfl
  | [], _ :: _, h => by simp [cmpS, Go.Lib.compareBytes] at h
  | _ :: _, [], h => by simp [cmpS, Go.Lib.compareBytes] at h
  | a :: r, b :: q, h => by
    simp only [cmpS, Go.Lib.compareBytes] at h
    by_cases h1 : a < b
    · simp [h1] at h
    · by_cases h2 : b < a
      · simp [h1, h2] at h
      · simp only [h1, h2, if_false] at h
        have : a = b := by
          have e1 : ¬ a.toNat < b.toNat := fun hh => h1 (UInt8.lt_iff_toNat_lt.2 hh)
          have e2 : ¬ b.toNat < a.toNat := fun hh => h2 (UInt8.lt_iff_toNat_lt.2 hh)
          exact UInt8.toNat_inj.1 (by omega)
        rw [this, cmpS_eq (s := r) (t := q) h]
theorem cmpS_trans : ∀ {a b c : Bs}, cmpS a b < 0 → cmpS b c < 0 → cmpS a c < 0
  | [], [], _, h, _ => by simp [cmpS, Go.Lib.compareBytes] at h
  | [], _ :: _, [], _, h => by simp [cmpS, Go.Lib.compareBytes] at h
  | [], _ :: _, _ :: _, _, _ => by simp [cmpS, Go.Lib.compareBytes]
  | _ :: _, [], _, h, _ => by simp [cmpS, Go.Lib.compareBytes] at h
  | _ :: _, _ :: _, [], _, h => by simp [cmpS, Go.Lib.compareBytes] at h
  | a :: r, b :: q, c :: p, h1, h2 => by
    have ih := @cmpS_trans r q p
    simp only [cmpS, Go.Lib.compareBytes, UInt8.lt_iff_toNat_lt] at *
    by_cases x1 : a.toNat < b.toNat
    · by_cases x2 : b.toNat < c.toNat
      · rw [if_pos (by omega)]; omega
      · rw [if_neg x2] at h2
        by_cases x3 : c.toNat < b.toNat
        · rw [if_pos x3] at h2; omega
        · rw [if_pos (by omega)]; omega
    · rw [if_neg x1] at h1
      by_cases x4 : b.toNat < a.toNat
      · rw [if_pos x4] at h1; omega
      · rw [if_neg x4] at h1
        by_cases x2 : b.toNat < c.toNat
        · rw [if_pos (by omega)]; omega
        · rw [if_neg x2] at h2
          by_cases x3 : c.toNat < b.toNat
          · rw [if_pos x3] at h2; omega
          · rw [if_neg x3] at h2
            rw [if_neg (by omega), if_neg (by omega)]
            exact ih h1 h2

theorem cmpV_self (v : Val) : cmpV v v = 0 := by
  unfold cmpV
  rw [if_neg (by omega), if_neg (by omega)]
  split
  · unfold cmpI; split <;> (try split) <;> omega
  · split
    · exact cmpS_self _
    · rfl
theorem cmpV_anti (a b : Val) : cmpV b a = - cmpV a b := by
  unfold cmpV
  by_cases h1 : a.k < b.k
  · rw [if_neg (by omega), if_pos (by omega), if_pos h1]; omega
  · by_cases h2 : a.k > b.k
    · rw [if_pos (by omega), if_neg h1, if_pos h2]
    · have he : b.k = a.k := by omega
      rw [if_neg h2, if_neg h1, if_neg h1, if_neg h2, he]
      split
      · exact cmpI_anti _ _
      · split
        · exact cmpS_anti _ _
        · rfl
theorem cmpV_eq {a b : Val} (ha : chk a = 0) (hb : chk b = 0) (wa : a.wf) (wb : b.wf) (h : cmpV a b = 0) : a = b := by
  obtain ⟨a1, a2, a3, _⟩ := chk_zero ha
  obtain ⟨b1, b2, b3, _⟩ := chk_zero hb
  obtain ⟨x1, _⟩ := wa
  unfold cmpV at h
  by_cases h1 : a.k < b.k
  · rw [if_pos h1] at h; omega
  · rw [if_neg h1] at h
    by_cases h2 : a.k > b.k
    · rw [if_pos h2] at h; omega
    · rw [if_neg h2] at h
      obtain ⟨ak, an, aq⟩ := a
      obtain ⟨bk, bn, bs⟩ := b
      simp only at *
      have hk : ak = bk := by omega
      subst hk
      by_cases h3 : ak = 1
      · rw [if_pos h3] at h
        have := cmpI_eq h
        have e1 : aq = [] := by rcases a3 with h | h; omega; exact h
        have e2 : bs = [] := by rcases b3 with h | h; omega; exact h
        subst this e1 e2; rfl
      · have e1 : an = 0 := by rcases a2 with h | h; omega; exact h
        have e2 : bn = 0 := by rcases b2 with h | h; omega; exact h
        rw [if_neg h3] at h
        by_cases h4 : ak = 2 ∨ ak = 3
        · rw [if_pos h4] at h
          have := cmpS_eq h
          subst this e1 e2; rfl
        · have e3 : aq = [] := by rcases a3 with h | h; omega; exact h
          have e4 : bs = [] := by rcases b3 with h | h; omega; exact h
          subst e1 e2 e3 e4; rfl
theorem cmpV_trans {a b c : Val} (h1 : cmpV a b < 0) (h2 : cmpV b c < 0) : cmpV a c < 0 := by
  unfold cmpV at *
  by_cases x1 : a.k < b.k
  · by_cases x2 : b.k > c.k
    · rw [if_neg (by omega), if_pos x2] at h2; omega
    · rw [if_pos (by omega)]; omega
  · rw [if_neg x1] at h1
    by_cases x2 : a.k > b.k
    · rw [if_pos x2] at h1; omega
    · rw [if_neg x2] at h1
      by_cases y1 : b.k < c.k
      · rw [if_pos (by omega)]; omega
      · rw [if_neg y1] at h2
        by_cases y2 : b.k > c.k
        · rw [if_pos y2] at h2; omega
        · rw [if_neg y2] at h2
          rw [if_neg (by omega), if_neg (by omega)]
          have e : b.k = a.k := by omega
          rw [e] at h2
          by_cases z1 : a.k = 1
          · rw [if_pos z1] at h1 h2 ⊢
            rw [cmpI_lt] at *; omega
          · rw [if_neg z1] at h1 h2 ⊢
            by_cases z2 : a.k = 2 ∨ a.k = 3
            · rw [if_pos z2] at h1 h2 ⊢
              exact cmpS_trans h1 h2
            · rw [if_neg z2] at h1; omega

/-- the values of a row that may be -/
def rowOk (l : List Val) : Prop := ∀ v ∈ l, chk v = 0 ∧ v.wf

theorem cmpR_self : ∀ (l : List Val), cmpR l l = 0
  | [] => rfl
  | v :: r => by simp only [cmpR, cmpV_self, if_true]; exact cmpR_self r
theorem cmpR_anti : ∀ (a b : List Val), cmpR b a = - cmpR a b
  | [], [] => rfl
  | [], _ :: _ => rfl
  | _ :: _, [] => rfl
  | a :: r, b :: q => by
    have ih := cmpR_anti r q
    simp only [cmpR, cmpV_anti a b]
    by_cases h : cmpV a b = 0
    · rw [if_pos h, if_pos (by omega), ih]
    · rw [if_neg h, if_neg (by omega)]
theorem cmpR_eq : ∀ {a b : List Val}, rowOk a → rowOk b → cmpR a b = 0 → a = b
  | [], [], _, _, _ => rfl
  | [], _ :: _, _, _, h => by simp [cmpR] at h
  | _ :: _, [], _, _, h => by simp [cmpR] at h
  | a :: r, b :: q, ha, hb, h => by
    simp only [cmpR] at h
    by_cases x : cmpV a b = 0
    · rw [if_pos x] at h
      have e := cmpV_eq (ha a (by simp)).1 (hb b (by simp)).1 (ha a (by simp)).2 (hb b (by simp)).2 x
      have e2 := cmpR_eq (a := r) (b := q) (fun v hv => ha v (by simp [hv])) (fun v hv => hb v (by simp [hv])) h
      rw [e, e2]
    · rw [if_neg x] at h; exact absurd h x
theorem cmpR_trans : ∀ {a b c : List Val}, rowOk a → rowOk b → rowOk c → cmpR a b < 0 → cmpR b c < 0 → cmpR a c < 0
  | [], [], _, _, _, _, h, _ => by simp [cmpR] at h
  | [], _ :: _, [], _, _, _, _, h => by simp [cmpR] at h
  | [], _ :: _, _ :: _, _, _, _, _, _ => by simp [cmpR]
  | _ :: _, [], _, _, _, _, h, _ => by simp [cmpR] at h
  | _ :: _, _ :: _, [], _, _, _, _, h => by simp [cmpR] at h
  | a :: r, b :: q, c :: p, ha, hb, hc, h1, h2 => by
    have ih := @cmpR_trans r q p (fun v hv => ha v (by simp [hv])) (fun v hv => hb v (by simp [hv])) (fun v hv => hc v (by simp [hv]))
    have va := ha a (by simp)
    have vb := hb b (by simp)
    have vc := hc c (by simp)
    simp only [cmpR] at *
    by_cases x : cmpV a b = 0
    · have e := cmpV_eq va.1 vb.1 va.2 vb.2 x
      subst e
      rw [if_pos x] at h1
      by_cases y : cmpV a c = 0
      · rw [if_pos y] at h2 ⊢; exact ih h1 h2
      · rw [if_neg y] at h2 ⊢; exact h2
    · rw [if_neg x] at h1
      by_cases y : cmpV b c = 0
      · have e := cmpV_eq vb.1 vc.1 vb.2 vc.2 y
        subst e
        rw [if_neg x]; exact h1
      · rw [if_neg y] at h2
        have := cmpV_trans h1 h2
        rw [if_neg (by omega)]; exact this

def Chg.wf (c : Chg) : Prop := (∀ v ∈ c.k, v.wf) ∧ (∀ v ∈ c.o, v.wf) ∧ (∀ v ∈ c.n, v.wf)

theorem cmpC_anti (a b : Chg) : cmpC b a = - cmpC a b := by
  unfold cmpC
  rw [cmpS_anti a.t b.t]
  by_cases h : cmpS a.t b.t = 0
  · rw [if_pos h, if_pos (by omega)]; exact cmpR_anti _ _
  · rw [if_neg h, if_neg (by omega)]
theorem cmpC_eq {a b : Chg} (ha : rowOk a.k) (hb : rowOk b.k) (h : cmpC a b = 0) : a.t = b.t ∧ a.k = b.k := by
  unfold cmpC at h
  by_cases x : cmpS a.t b.t = 0
  · rw [if_pos x] at h; exact ⟨cmpS_eq x, cmpR_eq ha hb h⟩
  · rw [if_neg x] at h; exact absurd h x
theorem cmpC_of {a b : Chg} (ht : a.t = b.t) (hk : a.k = b.k) : cmpC a b = 0 := by
  unfold cmpC; rw [ht, hk, if_pos (cmpS_self _)]; exact cmpR_self _
theorem cmpC_trans {a b c : Chg} (ha : rowOk a.k) (hb : rowOk b.k) (hc : rowOk c.k) (h1 : cmpC a b < 0) (h2 : cmpC b c < 0) : cmpC a c < 0 := by
  unfold cmpC at *
  by_cases x : cmpS a.t b.t = 0
  · have e := cmpS_eq x
    rw [if_pos x] at h1
    rw [e]
    by_cases y : cmpS b.t c.t = 0
    · rw [if_pos y] at h2 ⊢; exact cmpR_trans ha hb hc h1 h2
    · rw [if_neg y] at h2 ⊢; exact h2
  · rw [if_neg x] at h1
    by_cases y : cmpS b.t c.t = 0
    · have e := cmpS_eq y
      rw [← e, if_neg x]; exact h1
    · rw [if_neg y] at h2
      have := cmpS_trans h1 h2
      rw [if_neg (by omega)]; exact this

theorem mayC_key {c : Chg} (h : mayC c = true) (w : c.wf) : rowOk c.k := by
  simp only [mayC, Bool.and_eq_true, rowB, decide_eq_true_eq] at h
  have := putRow_ok h.1.1.2
  have h2 := (chkRow_zero this.1).2
  exact fun v hv => ⟨h2 v hv, w.1 v hv⟩

/-- the first stands ahead of all that follow -/
def sorted : List Chg → Prop
  | [] => True
  | x :: r => (∀ y ∈ r, cmpC x y < 0) ∧ sorted r

theorem mayI_spec : ∀ {l : List Chg} {p : Option Chg}, mayI p l = true → (∀ c ∈ l, c.wf) → (∀ q, p = some q → rowOk q.k) → (∀ c ∈ l, mayC c = true ∧ rowOk c.k) ∧ sorted l ∧ ∀ q, p = some q → ∀ c ∈ l, cmpC q c < 0
  | [], p, _, _, _ => ⟨by simp, trivial, by simp⟩
  | x :: r, p, h, w, hq => by
    simp only [mayI, Bool.and_eq_true] at h
    obtain ⟨⟨h1, h2⟩, h3⟩ := h
    have hx := mayC_key h1 (w x (by simp))
    obtain ⟨i1, i2, i3⟩ := mayI_spec h3 (fun c hc => w c (by simp [hc])) (fun q e => by injection e with e; subst e; exact hx)
    refine ⟨?_, ⟨i3 x rfl, i2⟩, ?_⟩
    · intro c hc
      rcases List.mem_cons.1 hc with rfl | hc
      · exact ⟨h1, hx⟩
      · exact i1 c hc
    · rintro q rfl c hc
      simp only [decide_eq_true_eq] at h2
      rcases List.mem_cons.1 hc with rfl | hc
      · exact h2
      · exact cmpC_trans (hq q rfl) hx (i1 c hc).2 h2 (i3 x rfl c hc)

/-! ### One upon the other -/
end Go.Proofs.Ytljfolepmkcjlaa.Plain

/-
  Changes as data; what walks over them use.
-/
namespace Go.Proofs.Ytljfolepmkcjlaa
open Go.RowKit Plain Am IntWalk
set_option maxRecDepth 100000

noncomputable def cfT (l : List (Nat × Ent)) : Cfg := { E := Env.of Try.prog, K := konOf l, byref := fun _ => false, callOk := cok }
theorem cfT_ok {l : List (Nat × Ent)} (h : EntsOk Try.prog l) : Ok Try.prog (cfT l) := ⟨⟨rfl, konOf_ok h, fun _ h => h⟩, mixed⟩
theorem wrap_succ {i : Nat} (h : i ≤ 1000000) : IntKind.i64.wrap ((i : Int) + 1) = ((i + 1 : Nat) : Int) := by rw [i64_in _ (by omega)]; omega
abbrev Ends (rs : List ResultVar) (v : RV) : SSt → Prop := fun s => ∃ r objs' c, finish (Env.of Try.prog) true 0 rs s.R s.O = some (r, objs', c) ∧ (∀ b ∈ c, b = true) ∧ r = v ∧ objs' = []

abbrev rD (l : List Val) : DV := .lst 3 (l.map vD) false
def chD (c : Chg) : DV := .agg [.str c.t, rD c.k, rD c.o, rD c.n]
def toChg : DV → Chg
  | .agg [.str t, .lst _ k _, .lst _ o _, .lst _ n _] => ⟨t, toRow k, toRow o, toRow n⟩
  | _ => ⟨[], [], [], []⟩
def isR : DV → Bool
  | .lst sz els full => okRow els && decide (sz = 3) && !full
  | _ => false
def isC : DV → Bool
  | .agg [.str _, a, b, c] => isR a && isR b && isR c
  | _ => false
def Chg.ok (c : Chg) : Prop := c.wf ∧ c.k.length ≤ 65536 ∧ c.o.length ≤ 65536 ∧ c.n.length ≤ 65536
theorem isR_rD {l : List Val} (hl : l.length ≤ 65536) (hw : ∀ v ∈ l, v.wf) : isR (rD l) = true := by simp [isR, okRow_map hl hw]
theorem isC_chD {c : Chg} (h : Chg.ok c) : isC (chD c) = true := by
  obtain ⟨⟨w1, w2, w3⟩, l1, l2, l3⟩ := h
  simp only [chD, isC, isR_rD l1 w1, isR_rD l2 w2, isR_rD l3 w3]; rfl
theorem toChg_chD (c : Chg) : toChg (chD c) = c := by simp [chD, toChg, rD, toRow_map]
theorem isR_spec {x : DV} (h : isR x = true) : ∃ l, x = rD l ∧ (∀ v ∈ l, v.wf) ∧ l.length ≤ 65536 := by
  unfold isR at h
  split at h
  · rename_i sz els full
    simp only [Bool.and_eq_true, decide_eq_true_eq, Bool.not_eq_true'] at h
    obtain ⟨⟨h1, rfl⟩, rfl⟩ := h
    obtain ⟨g1, g2, g3⟩ := okRow_spec h1
    exact ⟨toRow els, by rw [rD, ← g1], g2, g3⟩
  · cases h
theorem isC_spec {x : DV} (h : isC x = true) : ∃ c, x = chD c ∧ Chg.ok c := by
  unfold isC at h
  split at h
  · rename_i t a b c
    simp only [Bool.and_eq_true] at h
    obtain ⟨⟨h1, h2⟩, h3⟩ := h
    obtain ⟨k, rfl, w1, l1⟩ := isR_spec h1
    obtain ⟨o, rfl, w2, l2⟩ := isR_spec h2
    obtain ⟨n, rfl, w3, l3⟩ := isR_spec h3
    exact ⟨⟨t, k, o, n⟩, rfl, ⟨w1, w2, w3⟩, l1, l2, l3⟩
  · cases h
theorem getD_val (l : List Val) (i : Nat) (h : i < l.length) : (l.map vD).getD i .nilp = vD l[i] := by simp [h]
theorem getD_chg (l : List Chg) (i : Nat) (h : i < l.length) : (l.map chD).getD i .nilp = chD l[i] := by simp [h]
end Go.Proofs.Ytljfolepmkcjlaa

/-
  What walks over changes answer: the tables' entries.
-/
namespace Go.Proofs.Ytljfolepmkcjlaa
open Go.RowKit Plain Am IntWalk
set_option maxRecDepth 100000

abbrev vv (k n : Int) (s : Bs) : DV := .agg [.int .u8 k, .int .i64 n, .str s]
def chL (l : List Chg) : DV := .lst 4 (l.map chD) false
def unR : DV → List Val
  | .lst _ els _ => toRow els
  | _ => []
def unL : DV → List Chg
  | .lst _ els _ => els.map toChg
  | _ => []
def isL : DV → Bool
  | .lst sz els full => decide (els.length ≤ 65536) && els.all isC && decide (sz = 4) && !full
  | _ => false
theorem unR_rD (l : List Val) : unR (rD l) = l := toRow_map l
theorem unL_map (l : List Chg) : (l.map chD).map toChg = l := by
  rw [List.map_map]
  conv => rhs; rw [← List.map_id l]
  exact List.map_congr_left fun c _ => toChg_chD c
theorem unL_chL (l : List Chg) : unL (chL l) = l := unL_map l
def okL (l : List Chg) : Prop := l.length ≤ 65536 ∧ ∀ c ∈ l, Chg.ok c
theorem isL_chL {l : List Chg} (h : okL l) : isL (chL l) = true := by
  simp only [isL, chL, List.length_map, Bool.and_eq_true, decide_eq_true_eq, List.all_eq_true, List.mem_map]
  refine ⟨⟨⟨h.1, ?_⟩, trivial⟩, rfl⟩
  rintro x ⟨c, hc, rfl⟩
  exact isC_chD (h.2 c hc)
theorem isL_spec {x : DV} (h : isL x = true) : ∃ l, x = chL l ∧ okL l := by
  unfold isL at h
  split at h
  · rename_i sz els full
    simp only [Bool.and_eq_true, decide_eq_true_eq, Bool.not_eq_true', List.all_eq_true] at h
    obtain ⟨⟨⟨h1, h2⟩, rfl⟩, rfl⟩ := h
    have : ∃ l : List Chg, els = l.map chD ∧ ∀ c ∈ l, Chg.ok c := by
      clear h1
      induction els with
      | nil => exact ⟨[], rfl, by simp⟩
      | cons x r ih =>
        obtain ⟨l, rfl, hl⟩ := ih (fun y hy => h2 y (by simp [hy]))
        obtain ⟨c, rfl, hc⟩ := isC_spec (h2 x (by simp))
        exact ⟨c :: l, rfl, fun d hd => by
          rcases List.mem_cons.1 hd with rfl | hd
          · exact hc
          · exact hl d hd⟩
    obtain ⟨l, rfl, hl⟩ := this
    exact ⟨l, rfl, by simpa using h1, hl⟩
  · cases h

def cvG : DV → DV → Option (DV × List Bool)
  | .agg [.int .u8 k, .int .i64 n, .str s], .agg [.int .u8 k2, .int .i64 n2, .str s2] => some (.int .i64 (cmpV ⟨k, n, s⟩ ⟨k2, n2, s2⟩), [])
  | _, _ => none
def eqG (x y : DV) : Option (DV × List Bool) := some (.bool (decide (unR x = unR y)), [isR x, isR y])
def crG (x y : DV) : Option (DV × List Bool) := some (.int .i64 (cmpR (unR x) (unR y)), [isR x, isR y])
def ccG (x y : DV) : Option (DV × List Bool) := some (.int .i64 (cmpC (toChg x) (toChg y)), [isC x, isC y])
def myG (x : DV) : Option (DV × List Bool) := some (.bool (mayC (toChg x)), [isC x])
def ckG (x : DV) : Option (DV × List Bool) := some (.int .i64 (if mayL (unL x) then 0 else 2), [isL x])
def smG (x y : DV) : Option (DV × List Bool) := some (.bool (decide (unL x = unL y)), [isL x, isL y])
end Go.Proofs.Ytljfolepmkcjlaa

/-
  slices.Equal of rows, value.Compare, value.CompareRows.
-/
namespace Go.Proofs.Ytljfolepmkcjlaa
open Go.RowKit Plain Am IntWalk
set_option maxRecDepth 100000
set_option linter.unusedVariables false
set_option linter.unusedSimpArgs false

noncomputable abbrev eqC : Code := (Try.f33.body).getD .skip
def eqS (x y : List DV) (i : Nat) : ESt := { n := 26, m := 0, regs := T.mk [(0, .d (.lst 3 x false)), (1, .d (.lst 3 y false)), (12, .d (.int .i64 (x.length : Int))), (13, .d (.int .i64 (i : Int)))], objs := T.mk [] }
noncomputable abbrev cvC : Code := (Try.f79.body).getD .skip
noncomputable abbrev crC : Code := (Try.f62.body).getD .skip
def crS (x y : List DV) (m i : Nat) : ESt := { n := 40, m := 0, regs := T.mk [(0, .d (.lst 3 x false)), (1, .d (.lst 3 y false)), (11, .d (.int .i64 (m : Int))), (12, .d (.int .i64 (i : Int)))], objs := T.mk [] }
theorem at_ex (l : List Val) (i : Nat) : ∃ v, ∀ h : i < l.length, l[i] = v := by
  by_cases h : i < l.length
  · exact ⟨l[i], fun _ => rfl⟩
  · exact ⟨⟨0, 0, []⟩, fun h' => absurd h' h⟩
theorem at_chg (l : List Chg) (i : Nat) : ∃ v, ∀ h : i < l.length, l[i] = v := by
  by_cases h : i < l.length
  · exact ⟨l[i], fun _ => rfl⟩
  · exact ⟨⟨[], [], [], []⟩, fun h' => absurd h' h⟩
theorem lt_map {α β : Type} {f : α → β} {l : List α} {i : Nat} (h : decide ((Nat.cast (R := Int) i) < (Nat.cast (R := Int) (l.map f).length)) = true) : i < l.length := by
  have := of_decide_eq_true h; rw [List.length_map] at this; omega
theorem ge_map {α β : Type} {f : α → β} {l : List α} {i : Nat} (h : decide ((Nat.cast (R := Int) i) < (Nat.cast (R := Int) (l.map f).length)) = false) : l.length ≤ i := by
  have := of_decide_eq_false h; rw [List.length_map] at this; omega
theorem bd_map {α β : Type} {f : α → β} {l : List α} {i : Nat} (h : i < l.length) : decide (0 ≤ (Nat.cast (R := Int) i) ∧ (Nat.cast (R := Int) i) < (Nat.cast (R := Int) (l.map f).length)) = true := by
  refine decide_eq_true ?_; rw [List.length_map]; omega
theorem ov_val {l : List Val} {i : Nat} {v : Val} (h : i < l.length) (hv : l[i] = v) : RVle (.iptr ((l.map vD).getD (Nat.cast (R := Int) i).toNat .nilp) 0) (.iptr (vD v) 0) := .of_eq (by rw [Int.toNat_natCast, getD_val l i h, hv])
theorem ov_chg {l : List Chg} {i : Nat} {v : Chg} (h : i < l.length) (hv : l[i] = v) : RVle (.iptr ((l.map chD).getD (Nat.cast (R := Int) i).toNat .nilp) 0) (.iptr (chD v) 0) := .of_eq (by rw [Int.toNat_natCast, getD_chg l i h, hv])
theorem ov_succ {i : Nat} (h : i ≤ 1000000) : RVle (.d (.int .i64 (IntKind.i64.wrap ((Nat.cast (R := Int) i) + 1)))) (.d (.int .i64 (Nat.cast (R := Int) (i + 1)))) := .of_eq (by rw [wrap_succ h])
theorem neV (v w : Val) : (!(v.1 == w.1 && (v.2 == w.2 && (v.3 == w.3 && true)))) = !decide (v = w) := by
  obtain ⟨k, n, s⟩ := v
  obtain ⟨k2, n2, s2⟩ := w
  congr 1
  apply Bool.eq_iff_iff.2
  simp

theorem eqR_c (a b : List Val) (ha : a.length ≤ 65536) : C Try.prog 33 [.d (rD a), .d (rD b)] [] (fun r o => r = .d (.bool (decide (a = b))) ∧ o = []) := by
  have ok := cfT_ok (l := []) .nil
  refine C_of_run (fn := Try.f33) (body := eqC) true (by kernel_rfl) (by kernel_rfl) (by kernel_rfl) ?_
  have hloop : a.length = b.length → WK Try.prog 0 (stackAt eqC 0) (eqS (a.map vD) (b.map vD) 0).den (Ends (Try.f33.results.toList) (.d (.bool (decide (a = b))))) := by
    intro hlen
    refine WK.rec' (fun i => eqS (a.map vD) (b.map vD) i) (fun i => i ≤ a.length ∧ a.take i = b.take i) (fun i => a.length - i) ?_ 0 ⟨Nat.zero_le _, rfl⟩
    rintro i ⟨hi, ht⟩ ih
    obtain ⟨v, hv⟩ := at_ex a i
    obtain ⟨w, hw⟩ := at_ex b i
    have hb : i < a.length → i < b.length := fun h => by omega
    rcases Bool.eq_false_or_eq_true (decide ((Nat.cast (R := Int) i) < (Nat.cast (R := Int) (a.map vD).length)) : Bool) with h14 | h14
    · skip
      rcases Bool.eq_false_or_eq_true (!(v.1 == w.1 && (v.2 == w.2 && (v.3 == w.3 && true))) : Bool) with h24 | h24
      · skip
        exact WK.fin ok 1000 0 [(18, RV.iptr (DV.agg [DV.int Go.IntKind.u8 v.1, DV.int Go.IntKind.i64 v.2, DV.str v.3]) 0), (22, RV.iptr (DV.agg [DV.int Go.IntKind.u8 w.1, DV.int Go.IntKind.i64 w.2, DV.str w.3]) 0), (25, RV.d (DV.int Go.IntKind.i64 (Nat.cast (R := Int) (i + 1)))), (14, RV.d (DV.bool true)), (24, RV.d (DV.bool true))] [decide (0 ≤ (Nat.cast (R := Int) i) ∧ (Nat.cast (R := Int) i) < (Nat.cast (R := Int) (a.map vD).length)), decide (0 ≤ (Nat.cast (R := Int) i) ∧ (Nat.cast (R := Int) i) < (Nat.cast (R := Int) (b.map vD).length))] [(RV.d (DV.bool (decide ((Nat.cast (R := Int) i) < (Nat.cast (R := Int) (a.map vD).length)))), RV.d (DV.bool true)), (RV.iptr ((a.map vD).getD (Nat.cast (R := Int) i).toNat DV.nilp) 0, RV.iptr (DV.agg [DV.int Go.IntKind.u8 v.1, DV.int Go.IntKind.i64 v.2, DV.str v.3]) 0), (RV.iptr ((b.map vD).getD (Nat.cast (R := Int) i).toNat DV.nilp) 0, RV.iptr (DV.agg [DV.int Go.IntKind.u8 w.1, DV.int Go.IntKind.i64 w.2, DV.str w.3]) 0), (RV.d (DV.bool !(v.1 == w.1 && (v.2 == w.2 && (v.3 == w.3 && true)))), RV.d (DV.bool true))] rfl (by kernel_rfl : runEnd (cfT []) true _ 1000 0 _ _ (eqS (a.map vD) (b.map vD) i) = some (RV.d (DV.bool false), [], _, _)) (by refine ⟨?_, ?_, trivial⟩ <;> (first | exact bd_map (lt_map h14) | exact bd_map (hb (lt_map h14)))) (by refine ⟨le_bool h14, ?_, ?_, le_bool h24, trivial⟩ <;> (first | exact ov_val (lt_map h14) (hv (lt_map h14)) | exact ov_val (hb (lt_map h14)) (hw (hb (lt_map h14))) | exact ov_succ (by omega))) ⟨by first | (congr 2; refine (decide_eq_false ?_).symm; rintro rfl; have e1 := hv (lt_map h14); have e2 := hw (lt_map h14); rw [neV] at h24; simp [← e1, ← e2] at h24; done) | (congr 2; refine (decide_eq_true ?_).symm; have e := ge_map h14; rwa [List.take_of_length_le e, List.take_of_length_le (by omega)] at ht), rfl⟩
      · skip
        refine WK.segA ok 1000 0 [(18, RV.iptr (DV.agg [DV.int Go.IntKind.u8 v.1, DV.int Go.IntKind.i64 v.2, DV.str v.3]) 0), (22, RV.iptr (DV.agg [DV.int Go.IntKind.u8 w.1, DV.int Go.IntKind.i64 w.2, DV.str w.3]) 0), (25, RV.d (DV.int Go.IntKind.i64 (Nat.cast (R := Int) (i + 1)))), (14, RV.d (DV.bool true)), (24, RV.d (DV.bool false))] [] [0, 1, 12, 13] [decide (0 ≤ (Nat.cast (R := Int) i) ∧ (Nat.cast (R := Int) i) < (Nat.cast (R := Int) (a.map vD).length)), decide (0 ≤ (Nat.cast (R := Int) i) ∧ (Nat.cast (R := Int) i) < (Nat.cast (R := Int) (b.map vD).length))] [(RV.d (DV.bool (decide ((Nat.cast (R := Int) i) < (Nat.cast (R := Int) (a.map vD).length)))), RV.d (DV.bool true)), (RV.iptr ((a.map vD).getD (Nat.cast (R := Int) i).toNat DV.nilp) 0, RV.iptr (DV.agg [DV.int Go.IntKind.u8 v.1, DV.int Go.IntKind.i64 v.2, DV.str v.3]) 0), (RV.iptr ((b.map vD).getD (Nat.cast (R := Int) i).toNat DV.nilp) 0, RV.iptr (DV.agg [DV.int Go.IntKind.u8 w.1, DV.int Go.IntKind.i64 w.2, DV.str w.3]) 0), (RV.d (DV.bool !(v.1 == w.1 && (v.2 == w.2 && (v.3 == w.3 && true)))), RV.d (DV.bool false)), (RV.d (DV.int Go.IntKind.i64 (Go.IntKind.i64.wrap ((Nat.cast (R := Int) i) + 1))), RV.d (DV.int Go.IntKind.i64 (Nat.cast (R := Int) (i + 1))))] rfl (by kernel_rfl : runSegA (cfT []) 1000 0 _ _ _ _ (eqS (a.map vD) (b.map vD) i) = some (stackAt eqC 0, eqS (a.map vD) (b.map vD) (i + 1), _, _)) (by refine ⟨?_, ?_, trivial⟩ <;> (first | exact bd_map (lt_map h14) | exact bd_map (hb (lt_map h14)))) (by refine ⟨le_bool h14, ?_, ?_, le_bool h24, ?_, trivial⟩ <;> (first | exact ov_val (lt_map h14) (hv (lt_map h14)) | exact ov_val (hb (lt_map h14)) (hw (hb (lt_map h14))) | exact ov_succ (by omega))) ?_
        have hl := lt_map h14
        refine ih (i + 1) ⟨hl, ?_⟩ (by omega)
        rw [neV] at h24
        have e : v = w := (by simpa using h24)
        rw [List.take_add_one, List.take_add_one, ht, List.getElem?_eq_getElem hl, List.getElem?_eq_getElem (hb hl), hv hl, hw (hb hl), e]
    · skip
      exact WK.fin ok 1000 0 [(18, RV.iptr (DV.agg [DV.int Go.IntKind.u8 v.1, DV.int Go.IntKind.i64 v.2, DV.str v.3]) 0), (22, RV.iptr (DV.agg [DV.int Go.IntKind.u8 w.1, DV.int Go.IntKind.i64 w.2, DV.str w.3]) 0), (25, RV.d (DV.int Go.IntKind.i64 (Nat.cast (R := Int) (i + 1)))), (14, RV.d (DV.bool false))] [] [(RV.d (DV.bool (decide ((Nat.cast (R := Int) i) < (Nat.cast (R := Int) (a.map vD).length)))), RV.d (DV.bool false))] rfl (by kernel_rfl : runEnd (cfT []) true _ 1000 0 _ _ (eqS (a.map vD) (b.map vD) i) = some (RV.d (DV.bool true), [], _, _)) trivial ⟨le_bool h14, trivial⟩ ⟨by first | (congr 2; refine (decide_eq_false ?_).symm; rintro rfl; have e1 := hv (lt_map h14); have e2 := hw (lt_map h14); rw [neV] at h24; simp [← e1, ← e2] at h24; done) | (congr 2; refine (decide_eq_true ?_).symm; have e := ge_map h14; rwa [List.take_of_length_le e, List.take_of_length_le (by omega)] at ht), rfl⟩
  rcases Bool.eq_false_or_eq_true ((Nat.cast (R := Int) (a.map vD).length) != (Nat.cast (R := Int) (b.map vD).length) : Bool) with h10 | h10
  · skip
    exact WK.fin ok 1000 0 [(10, RV.d (DV.bool true))] [] [(RV.d (DV.bool ((Nat.cast (R := Int) (a.map vD).length) != (Nat.cast (R := Int) (b.map vD).length))), RV.d (DV.bool true))] rfl (by kernel_rfl : runEnd (cfT []) true _ 1000 0 _ _ (ini 26 [.d (rD a), .d (rD b)] []) = some (RV.d (DV.bool false), [], _, _)) trivial ⟨le_bool h10, trivial⟩ ⟨by congr 2; refine (decide_eq_false ?_).symm; rintro rfl; simp at h10, rfl⟩
  · skip
    refine WK.segA ok 1000 0 [(10, RV.d (DV.bool false))] [] [0, 1, 12, 13] [] [(RV.d (DV.bool ((Nat.cast (R := Int) (a.map vD).length) != (Nat.cast (R := Int) (b.map vD).length))), RV.d (DV.bool false))] rfl (by kernel_rfl : runSegA (cfT []) 1000 0 _ _ _ _ (ini 26 [.d (rD a), .d (rD b)] []) = some (stackAt eqC 0, eqS (a.map vD) (b.map vD) 0, _, _)) trivial ⟨le_bool h10, trivial⟩ ?_
    have e : (a.length : Int) = b.length := (by simpa using h10)
    exact hloop (by omega)

theorem cv_c (k n : Int) (s : Bs) (k2 n2 : Int) (s2 : Bs) : C Try.prog 79 [.d (vv k n s), .d (vv k2 n2 s2)] [] (fun r o => r = .d (.int .i64 (cmpV ⟨k, n, s⟩ ⟨k2, n2, s2⟩)) ∧ o = []) := by
  have ok := cfT_ok tb_ok
  refine C_of_run (fn := Try.f79) (body := cvC) true (by kernel_rfl) (by kernel_rfl) (by kernel_rfl) ?_
  by_cases hk : k = k2 ∧ (k = 1 ∨ k = 2 ∨ k = 3)
  · obtain ⟨rfl, rfl | rfl | rfl⟩ := hk
    · by_cases hn : n = n2
      · subst hn
        exact WK.fin ok 2000 0 [(27, .d (.bool false)), (41, .d (.bool false))] [] [(.d (.bool (n != n)), .d (.bool false)), (.d (.bool false), .d (.bool false))] rfl (by kernel_rfl : runEnd (cfT tb) true _ 2000 0 _ _ (ini 47 [.d (vv 1 n s), .d (vv 1 n s2)] []) = some (.d (.int .i64 0), [], _, _)) trivial ⟨le_bool (by simp), le_bool rfl, trivial⟩ ⟨by simp [cmpV, cmpI], rfl⟩
      · by_cases hl : n < n2
        · exact WK.fin ok 2000 0 [(27, .d (.bool true)), (32, .d (.bool true))] [] [(.d (.bool (n != n2)), .d (.bool true)), (.d (.bool (decide (n < n2))), .d (.bool true))] rfl (by kernel_rfl : runEnd (cfT tb) true _ 2000 0 _ _ (ini 47 [.d (vv 1 n s), .d (vv 1 n2 s2)] []) = some (.d (.int .i64 (-1)), [], _, _)) trivial ⟨le_bool (by simpa using hn), le_bool (by simpa using hl), trivial⟩ ⟨by simp [cmpV, cmpI, hl], rfl⟩
        · exact WK.fin ok 2000 0 [(27, .d (.bool true)), (32, .d (.bool false))] [] [(.d (.bool (n != n2)), .d (.bool true)), (.d (.bool (decide (n < n2))), .d (.bool false))] rfl (by kernel_rfl : runEnd (cfT tb) true _ 2000 0 _ _ (ini 47 [.d (vv 1 n s), .d (vv 1 n2 s2)] []) = some (.d (.int .i64 1), [], _, _)) trivial ⟨le_bool (by simpa using hn), le_bool (by simpa using hl), trivial⟩ ⟨by simp [cmpV, cmpI, hl]; omega, rfl⟩
    · exact WK.fin ok 2000 0 [] [] [] rfl (by kernel_rfl : runEnd (cfT tb) true _ 2000 0 _ _ (ini 47 [.d (vv 2 n s), .d (vv 2 n2 s2)] []) = some (.d (.int .i64 (cmpS s s2)), [], _, _)) trivial trivial ⟨by simp [cmpV], rfl⟩
    · exact WK.fin ok 2000 0 [(41, .d (.bool true))] [] [(.d (.bool true), .d (.bool true))] rfl (by kernel_rfl : runEnd (cfT tb) true _ 2000 0 _ _ (ini 47 [.d (vv 3 n s), .d (vv 3 n2 s2)] []) = some (.d (.int .i64 (cmpS s s2)), [], _, _)) trivial ⟨le_bool rfl, trivial⟩ ⟨by simp [cmpV], rfl⟩
  · skip
    rcases Bool.eq_false_or_eq_true (decide (k < k2) : Bool) with h10 | h10
    · skip
      exact WK.fin ok 2000 0 [(20, RV.d (DV.bool false)), (36, RV.d (DV.bool false)), (40, RV.d (DV.bool false)), (10, RV.d (DV.bool true))] [] [(RV.d (DV.bool (decide (k < k2))), RV.d (DV.bool true))] rfl (by kernel_rfl : runEnd (cfT tb) true _ 2000 0 _ _ (ini 47 [.d (vv k n s), .d (vv k2 n2 s2)] []) = some (RV.d (DV.int Go.IntKind.i64 (-1)), [], _, _)) trivial ⟨le_bool h10, trivial⟩ ⟨by unfold cmpV; first | (have e1 := of_decide_eq_true h10; simp [e1]; done) | (have e1 := of_decide_eq_false h10; have e2 := of_decide_eq_true h16; simp [e1, e2]; done) | (have e1 := of_decide_eq_false h10; have e2 := of_decide_eq_false h16; have e : k = k2 := (by omega); subst e; rw [if_neg (by simp), if_neg (by simp)]; simp only; rw [if_neg (fun h => hk ⟨rfl, .inl h⟩), if_neg (fun h => hk ⟨rfl, .inr h⟩)]), rfl⟩
    · skip
      rcases Bool.eq_false_or_eq_true (decide (k2 < k) : Bool) with h16 | h16
      · skip
        exact WK.fin ok 2000 0 [(20, RV.d (DV.bool false)), (36, RV.d (DV.bool false)), (40, RV.d (DV.bool false)), (10, RV.d (DV.bool false)), (16, RV.d (DV.bool true))] [] [(RV.d (DV.bool (decide (k < k2))), RV.d (DV.bool false)), (RV.d (DV.bool (decide (k2 < k))), RV.d (DV.bool true))] rfl (by kernel_rfl : runEnd (cfT tb) true _ 2000 0 _ _ (ini 47 [.d (vv k n s), .d (vv k2 n2 s2)] []) = some (RV.d (DV.int Go.IntKind.i64 (1)), [], _, _)) trivial ⟨le_bool h10, le_bool h16, trivial⟩ ⟨by unfold cmpV; first | (have e1 := of_decide_eq_true h10; simp [e1]; done) | (have e1 := of_decide_eq_false h10; have e2 := of_decide_eq_true h16; simp [e1, e2]; done) | (have e1 := of_decide_eq_false h10; have e2 := of_decide_eq_false h16; have e : k = k2 := (by omega); subst e; rw [if_neg (by simp), if_neg (by simp)]; simp only; rw [if_neg (fun h => hk ⟨rfl, .inl h⟩), if_neg (fun h => hk ⟨rfl, .inr h⟩)]), rfl⟩
      · skip
        exact WK.fin ok 2000 0 [(20, RV.d (DV.bool false)), (36, RV.d (DV.bool false)), (40, RV.d (DV.bool false)), (10, RV.d (DV.bool false)), (16, RV.d (DV.bool false))] [] [(RV.d (DV.bool (decide (k < k2))), RV.d (DV.bool false)), (RV.d (DV.bool (decide (k2 < k))), RV.d (DV.bool false)), (RV.d (DV.bool (k == 1)), RV.d (DV.bool false)), (RV.d (DV.bool (k == 2)), RV.d (DV.bool false)), (RV.d (DV.bool (k == 3)), RV.d (DV.bool false))] rfl (by kernel_rfl : runEnd (cfT tb) true _ 2000 0 _ _ (ini 47 [.d (vv k n s), .d (vv k2 n2 s2)] []) = some (RV.d (DV.int Go.IntKind.i64 (0)), [], _, _)) trivial (by refine ⟨le_bool h10, le_bool h16, ?_, ?_, ?_, trivial⟩ <;> (first | exact le_bool (by have e1 := of_decide_eq_false h10; have e2 := of_decide_eq_false h16; apply beq_eq_false_iff_ne.2; rintro rfl; exact hk ⟨by omega, by simp⟩))) ⟨by unfold cmpV; first | (have e1 := of_decide_eq_true h10; simp [e1]; done) | (have e1 := of_decide_eq_false h10; have e2 := of_decide_eq_true h16; simp [e1, e2]; done) | (have e1 := of_decide_eq_false h10; have e2 := of_decide_eq_false h16; have e : k = k2 := (by omega); subst e; rw [if_neg (by simp), if_neg (by simp)]; simp only; rw [if_neg (fun h => hk ⟨rfl, .inl h⟩), if_neg (fun h => hk ⟨rfl, .inr h⟩)]), rfl⟩
theorem cv_ent : EntOk Try.prog 79 (e2 cvG) := by
  refine e2_ok fun x x2 y c hg hc => ?_
  unfold cvG at hg
  split at hg
  · simp only [Option.some.injEq, Prod.mk.injEq] at hg
    obtain ⟨rfl, rfl⟩ := hg
    exact cv_c _ _ _ _ _ _
  · cases hg
noncomputable def t1 : List (Nat × Ent) := [(79, e2 cvG)]
theorem t1_ok : EntsOk Try.prog t1 := .cons cv_ent .nil

theorem cmpR_drop {a b : List Val} {i : Nat} (ha : i < a.length) (hb : i < b.length) : cmpR (a.drop i) (b.drop i) = if cmpV a[i] b[i] = 0 then cmpR (a.drop (i + 1)) (b.drop (i + 1)) else cmpV a[i] b[i] := by
  rw [List.drop_eq_getElem_cons ha, List.drop_eq_getElem_cons hb]; rfl
theorem cmpR_end {a b : List Val} {i : Nat} (h : a.length ≤ i ∨ b.length ≤ i) (ha : i ≤ a.length) (hb : i ≤ b.length) : cmpR (a.drop i) (b.drop i) = cmpI a.length b.length := by
  unfold cmpI
  rcases h with h | h
  · rw [List.drop_eq_nil_of_le h]
    by_cases h2 : b.length ≤ i
    · rw [List.drop_eq_nil_of_le h2, if_neg (by omega), if_neg (by omega)]; rfl
    · rw [List.drop_eq_getElem_cons (by omega), if_pos (by omega)]; rfl
  · rw [List.drop_eq_nil_of_le h]
    by_cases h2 : a.length ≤ i
    · rw [List.drop_eq_nil_of_le h2, if_neg (by omega), if_neg (by omega)]; rfl
    · rw [List.drop_eq_getElem_cons (by omega), if_neg (by omega), if_pos (by omega)]; rfl
theorem cr_c (a b : List Val) (ha : a.length ≤ 65536) : C Try.prog 62 [.d (rD a), .d (rD b)] [] (fun r o => r = .d (.int .i64 (cmpR a b)) ∧ o = []) := by
  have ok := cfT_ok t1_ok
  refine C_of_run (fn := Try.f62) (body := crC) true (by kernel_rfl) (by kernel_rfl) (by kernel_rfl) ?_
  obtain ⟨m, hm⟩ : ∃ m, min a.length b.length = m := ⟨_, rfl⟩
  have hloop : WK Try.prog 0 (stackAt crC 0) (crS (a.map vD) (b.map vD) m 0).den (Ends (Try.f62.results.toList) (.d (.int .i64 (cmpR a b)))) := by
    refine WK.rec' (fun i => crS (a.map vD) (b.map vD) m i) (fun i => i ≤ m ∧ cmpR (a.drop i) (b.drop i) = cmpR a b) (fun i => m - i) ?_ 0 ⟨Nat.zero_le _, rfl⟩
    rintro i ⟨hi, ht⟩ ih
    obtain ⟨v, hv⟩ := at_ex a i
    obtain ⟨w, hw⟩ := at_ex b i
    have hlt : decide ((Nat.cast (R := Int) i) < (Nat.cast (R := Int) m)) = true → i < a.length ∧ i < b.length := fun h => by have := of_decide_eq_true h; omega
    have hstep : decide ((Nat.cast (R := Int) i) < (Nat.cast (R := Int) m)) = true → (if cmpV v w = 0 then cmpR (a.drop (i + 1)) (b.drop (i + 1)) else cmpV v w) = cmpR a b := fun h => by
      rw [← ht, cmpR_drop (hlt h).1 (hlt h).2, hv (hlt h).1, hw (hlt h).2]
    have hend : decide ((Nat.cast (R := Int) i) < (Nat.cast (R := Int) m)) = false → cmpI a.length b.length = cmpR a b := fun h => by
      have := of_decide_eq_false h
      rw [← ht, cmpR_end (by omega) (by omega) (by omega)]
    have hla : (Nat.cast (R := Int) (a.map vD).length) = (Nat.cast (R := Int) a.length) := by rw [List.length_map]
    have hlb : (Nat.cast (R := Int) (b.map vD).length) = (Nat.cast (R := Int) b.length) := by rw [List.length_map]
    rcases Bool.eq_false_or_eq_true (decide ((Nat.cast (R := Int) i) < (Nat.cast (R := Int) m)) : Bool) with h13 | h13
    · skip
      rcases Bool.eq_false_or_eq_true (Plain.cmpV { k := v.1, n := v.2, s := v.3 } { k := w.1, n := w.2, s := w.3 } != 0 : Bool) with h25 | h25
      · skip
        exact WK.fin ok 1000 0 [(17, RV.iptr (DV.agg [DV.int Go.IntKind.u8 v.1, DV.int Go.IntKind.i64 v.2, DV.str v.3]) 0), (21, RV.iptr (DV.agg [DV.int Go.IntKind.u8 w.1, DV.int Go.IntKind.i64 w.2, DV.str w.3]) 0), (27, RV.d (DV.int Go.IntKind.i64 (Nat.cast (R := Int) (i + 1)))), (13, RV.d (DV.bool true)), (25, RV.d (DV.bool true))] [decide (0 ≤ (Nat.cast (R := Int) i) ∧ (Nat.cast (R := Int) i) < (Nat.cast (R := Int) (a.map vD).length)), decide (0 ≤ (Nat.cast (R := Int) i) ∧ (Nat.cast (R := Int) i) < (Nat.cast (R := Int) (b.map vD).length))] [(RV.d (DV.bool (decide ((Nat.cast (R := Int) i) < (Nat.cast (R := Int) m)))), RV.d (DV.bool true)), (RV.iptr ((a.map vD).getD (Nat.cast (R := Int) i).toNat DV.nilp) 0, RV.iptr (DV.agg [DV.int Go.IntKind.u8 v.1, DV.int Go.IntKind.i64 v.2, DV.str v.3]) 0), (RV.iptr ((b.map vD).getD (Nat.cast (R := Int) i).toNat DV.nilp) 0, RV.iptr (DV.agg [DV.int Go.IntKind.u8 w.1, DV.int Go.IntKind.i64 w.2, DV.str w.3]) 0), (RV.d (DV.bool (Plain.cmpV { k := v.1, n := v.2, s := v.3 } { k := w.1, n := w.2, s := w.3 } != 0)), RV.d (DV.bool true))] rfl (by kernel_rfl : runEnd (cfT t1) true _ 1000 0 _ _ (crS (a.map vD) (b.map vD) m i) = some (RV.d (DV.int Go.IntKind.i64 (Plain.cmpV { k := v.1, n := v.2, s := v.3 } { k := w.1, n := w.2, s := w.3 })), [], _, _)) (by refine ⟨?_, ?_, trivial⟩ <;> (first | exact bd_map (hlt h13).1 | exact bd_map (hlt h13).2)) (by refine ⟨le_bool h13, ?_, ?_, le_bool h25, trivial⟩ <;> (first | exact ov_val (hlt h13).1 (hv (hlt h13).1) | exact ov_val (hlt h13).2 (hw (hlt h13).2) | exact ov_succ (by omega))) ⟨by congr 2; first | (have e := hstep h13; have e2 : cmpV v w ≠ 0 := (by simpa using h25); rw [if_neg e2] at e; exact e) | (have e := hend h13; rw [hla, hlb] at h33; unfold cmpI at e; rw [← e]; first | (rw [if_pos (of_decide_eq_true h33)]; done) | (rw [hla, hlb] at h39; rw [if_neg (of_decide_eq_false h33), if_pos (of_decide_eq_true h39)]; done) | (rw [hla, hlb] at h39; rw [if_neg (of_decide_eq_false h33), if_neg (of_decide_eq_false h39)])), rfl⟩
      · skip
        refine WK.segA ok 1000 0 [(17, RV.iptr (DV.agg [DV.int Go.IntKind.u8 v.1, DV.int Go.IntKind.i64 v.2, DV.str v.3]) 0), (21, RV.iptr (DV.agg [DV.int Go.IntKind.u8 w.1, DV.int Go.IntKind.i64 w.2, DV.str w.3]) 0), (27, RV.d (DV.int Go.IntKind.i64 (Nat.cast (R := Int) (i + 1)))), (13, RV.d (DV.bool true)), (25, RV.d (DV.bool false))] [] [0, 1, 11, 12] [decide (0 ≤ (Nat.cast (R := Int) i) ∧ (Nat.cast (R := Int) i) < (Nat.cast (R := Int) (a.map vD).length)), decide (0 ≤ (Nat.cast (R := Int) i) ∧ (Nat.cast (R := Int) i) < (Nat.cast (R := Int) (b.map vD).length))] [(RV.d (DV.bool (decide ((Nat.cast (R := Int) i) < (Nat.cast (R := Int) m)))), RV.d (DV.bool true)), (RV.iptr ((a.map vD).getD (Nat.cast (R := Int) i).toNat DV.nilp) 0, RV.iptr (DV.agg [DV.int Go.IntKind.u8 v.1, DV.int Go.IntKind.i64 v.2, DV.str v.3]) 0), (RV.iptr ((b.map vD).getD (Nat.cast (R := Int) i).toNat DV.nilp) 0, RV.iptr (DV.agg [DV.int Go.IntKind.u8 w.1, DV.int Go.IntKind.i64 w.2, DV.str w.3]) 0), (RV.d (DV.bool (Plain.cmpV { k := v.1, n := v.2, s := v.3 } { k := w.1, n := w.2, s := w.3 } != 0)), RV.d (DV.bool false)), (RV.d (DV.int Go.IntKind.i64 (Go.IntKind.i64.wrap ((Nat.cast (R := Int) i) + 1))), RV.d (DV.int Go.IntKind.i64 (Nat.cast (R := Int) (i + 1))))] rfl (by kernel_rfl : runSegA (cfT t1) 1000 0 _ _ _ _ (crS (a.map vD) (b.map vD) m i) = some (stackAt crC 0, crS (a.map vD) (b.map vD) m (i + 1), _, _)) (by refine ⟨?_, ?_, trivial⟩ <;> (first | exact bd_map (hlt h13).1 | exact bd_map (hlt h13).2)) (by refine ⟨le_bool h13, ?_, ?_, le_bool h25, ?_, trivial⟩ <;> (first | exact ov_val (hlt h13).1 (hv (hlt h13).1) | exact ov_val (hlt h13).2 (hw (hlt h13).2) | exact ov_succ (by omega))) ?_
        refine ih (i + 1) ⟨by have := of_decide_eq_true h13; omega, ?_⟩ (by have := of_decide_eq_true h13; omega)
        have e := hstep h13
        have e2 : cmpV v w = 0 := (by simpa using h25)
        rwa [if_pos e2] at e
    · skip
      rcases Bool.eq_false_or_eq_true (decide ((Nat.cast (R := Int) (a.map vD).length) < (Nat.cast (R := Int) (b.map vD).length)) : Bool) with h33 | h33
      · skip
        exact WK.fin ok 1000 0 [(17, RV.iptr (DV.agg [DV.int Go.IntKind.u8 v.1, DV.int Go.IntKind.i64 v.2, DV.str v.3]) 0), (21, RV.iptr (DV.agg [DV.int Go.IntKind.u8 w.1, DV.int Go.IntKind.i64 w.2, DV.str w.3]) 0), (27, RV.d (DV.int Go.IntKind.i64 (Nat.cast (R := Int) (i + 1)))), (13, RV.d (DV.bool false)), (33, RV.d (DV.bool true))] [] [(RV.d (DV.bool (decide ((Nat.cast (R := Int) i) < (Nat.cast (R := Int) m)))), RV.d (DV.bool false)), (RV.d (DV.bool (decide ((Nat.cast (R := Int) (a.map vD).length) < (Nat.cast (R := Int) (b.map vD).length)))), RV.d (DV.bool true))] rfl (by kernel_rfl : runEnd (cfT t1) true _ 1000 0 _ _ (crS (a.map vD) (b.map vD) m i) = some (RV.d (DV.int Go.IntKind.i64 (-1)), [], _, _)) trivial ⟨le_bool h13, le_bool h33, trivial⟩ ⟨by congr 2; first | (have e := hstep h13; have e2 : cmpV v w ≠ 0 := (by simpa using h25); rw [if_neg e2] at e; exact e) | (have e := hend h13; rw [hla, hlb] at h33; unfold cmpI at e; rw [← e]; first | (rw [if_pos (of_decide_eq_true h33)]; done) | (rw [hla, hlb] at h39; rw [if_neg (of_decide_eq_false h33), if_pos (of_decide_eq_true h39)]; done) | (rw [hla, hlb] at h39; rw [if_neg (of_decide_eq_false h33), if_neg (of_decide_eq_false h39)])), rfl⟩
      · skip
        rcases Bool.eq_false_or_eq_true (decide ((Nat.cast (R := Int) (b.map vD).length) < (Nat.cast (R := Int) (a.map vD).length)) : Bool) with h39 | h39
        · skip
          exact WK.fin ok 1000 0 [(17, RV.iptr (DV.agg [DV.int Go.IntKind.u8 v.1, DV.int Go.IntKind.i64 v.2, DV.str v.3]) 0), (21, RV.iptr (DV.agg [DV.int Go.IntKind.u8 w.1, DV.int Go.IntKind.i64 w.2, DV.str w.3]) 0), (27, RV.d (DV.int Go.IntKind.i64 (Nat.cast (R := Int) (i + 1)))), (13, RV.d (DV.bool false)), (33, RV.d (DV.bool false)), (39, RV.d (DV.bool true))] [] [(RV.d (DV.bool (decide ((Nat.cast (R := Int) i) < (Nat.cast (R := Int) m)))), RV.d (DV.bool false)), (RV.d (DV.bool (decide ((Nat.cast (R := Int) (a.map vD).length) < (Nat.cast (R := Int) (b.map vD).length)))), RV.d (DV.bool false)), (RV.d (DV.bool (decide ((Nat.cast (R := Int) (b.map vD).length) < (Nat.cast (R := Int) (a.map vD).length)))), RV.d (DV.bool true))] rfl (by kernel_rfl : runEnd (cfT t1) true _ 1000 0 _ _ (crS (a.map vD) (b.map vD) m i) = some (RV.d (DV.int Go.IntKind.i64 (1)), [], _, _)) trivial ⟨le_bool h13, le_bool h33, le_bool h39, trivial⟩ ⟨by congr 2; first | (have e := hstep h13; have e2 : cmpV v w ≠ 0 := (by simpa using h25); rw [if_neg e2] at e; exact e) | (have e := hend h13; rw [hla, hlb] at h33; unfold cmpI at e; rw [← e]; first | (rw [if_pos (of_decide_eq_true h33)]; done) | (rw [hla, hlb] at h39; rw [if_neg (of_decide_eq_false h33), if_pos (of_decide_eq_true h39)]; done) | (rw [hla, hlb] at h39; rw [if_neg (of_decide_eq_false h33), if_neg (of_decide_eq_false h39)])), rfl⟩
        · skip
          exact WK.fin ok 1000 0 [(17, RV.iptr (DV.agg [DV.int Go.IntKind.u8 v.1, DV.int Go.IntKind.i64 v.2, DV.str v.3]) 0), (21, RV.iptr (DV.agg [DV.int Go.IntKind.u8 w.1, DV.int Go.IntKind.i64 w.2, DV.str w.3]) 0), (27, RV.d (DV.int Go.IntKind.i64 (Nat.cast (R := Int) (i + 1)))), (13, RV.d (DV.bool false)), (33, RV.d (DV.bool false)), (39, RV.d (DV.bool false))] [] [(RV.d (DV.bool (decide ((Nat.cast (R := Int) i) < (Nat.cast (R := Int) m)))), RV.d (DV.bool false)), (RV.d (DV.bool (decide ((Nat.cast (R := Int) (a.map vD).length) < (Nat.cast (R := Int) (b.map vD).length)))), RV.d (DV.bool false)), (RV.d (DV.bool (decide ((Nat.cast (R := Int) (b.map vD).length) < (Nat.cast (R := Int) (a.map vD).length)))), RV.d (DV.bool false))] rfl (by kernel_rfl : runEnd (cfT t1) true _ 1000 0 _ _ (crS (a.map vD) (b.map vD) m i) = some (RV.d (DV.int Go.IntKind.i64 (0)), [], _, _)) trivial ⟨le_bool h13, le_bool h33, le_bool h39, trivial⟩ ⟨by congr 2; first | (have e := hstep h13; have e2 : cmpV v w ≠ 0 := (by simpa using h25); rw [if_neg e2] at e; exact e) | (have e := hend h13; rw [hla, hlb] at h33; unfold cmpI at e; rw [← e]; first | (rw [if_pos (of_decide_eq_true h33)]; done) | (rw [hla, hlb] at h39; rw [if_neg (of_decide_eq_false h33), if_pos (of_decide_eq_true h39)]; done) | (rw [hla, hlb] at h39; rw [if_neg (of_decide_eq_false h33), if_neg (of_decide_eq_false h39)])), rfl⟩
  refine WK.segA ok 1000 0 [(11, RV.d (DV.int Go.IntKind.i64 (Nat.cast (R := Int) m)))] [] [0, 1, 11, 12] [] [(RV.d (DV.int Go.IntKind.i64 (if (Nat.cast (R := Int) (b.map vD).length) < (Nat.cast (R := Int) (a.map vD).length) then (Nat.cast (R := Int) (b.map vD).length) else (Nat.cast (R := Int) (a.map vD).length))), RV.d (DV.int Go.IntKind.i64 (Nat.cast (R := Int) m)))] rfl (by kernel_rfl : runSegA (cfT t1) 1000 0 _ _ _ _ (ini 40 [.d (rD a), .d (rD b)] []) = some (stackAt crC 0, crS (a.map vD) (b.map vD) m 0, _, _)) trivial ⟨(by (refine .of_eq ?_; congr 2; simp only [List.length_map]; split <;> omega)), trivial⟩ ?_
  exact hloop
end Go.Proofs.Ytljfolepmkcjlaa

/-
  change.compare, change.may, change.Check, rebase.order.
-/
namespace Go.Proofs.Ytljfolepmkcjlaa
open Go.RowKit Plain Am IntWalk
set_option maxRecDepth 100000
set_option linter.unusedVariables false
set_option linter.unusedSimpArgs false

noncomputable abbrev bodyOf (f : Func) : Code := f.body.getD .skip
noncomputable abbrev mcC : Code := bodyOf Try.f39
noncomputable abbrev myC : Code := bodyOf Try.f38
def myS (c : Chg) (j : Int) : ESt := { n := 48, m := 0, regs := T.mk [(36, .d (.agg [rD c.k, rD c.o, rD c.n])), (37, .d (.int .i64 j))], objs := T.mk [] }
noncomputable abbrev ckC : Code := bodyOf Try.f17
def ckS (l : List DV) (i : Nat) : ESt := { n := 33, m := 0, regs := T.mk [(0, .d (.lst 4 l false)), (8, .d (.lst 4 l false)), (9, .d (.int .i64 (l.length : Int))), (10, .d (.int .i64 (i : Int)))], objs := T.mk [] }
noncomputable abbrev saC : Code := bodyOf Try.f16
def saS (x y : List DV) (i : Nat) : ESt := { n := 70, m := 0, regs := T.mk [(0, .d (.lst 4 x false)), (1, .d (.lst 4 y false)), (5, .d (.int .i64 (i : Int)))], objs := T.mk [] }

theorem eqG_ent {f : Nat} (h : ∀ a b : List Val, a.length ≤ 65536 → b.length ≤ 65536 → (∀ v ∈ a, v.wf) → (∀ v ∈ b, v.wf) → C Try.prog f [.d (rD a), .d (rD b)] [] (fun r o => r = .d (.bool (decide (a = b))) ∧ o = [])) : EntOk Try.prog f (e2 eqG) := by
  refine e2_ok fun x x2 y c hg hc => ?_
  simp only [eqG, Option.some.injEq, Prod.mk.injEq] at hg
  obtain ⟨rfl, rfl⟩ := hg
  obtain ⟨a, rfl, wa, la⟩ := isR_spec (hc (isR x) (by simp))
  obtain ⟨b, rfl, wb, lb⟩ := isR_spec (hc (isR x2) (by simp))
  rw [unR_rD, unR_rD]
  exact h a b la lb wa wb
theorem eq_ent : EntOk Try.prog 33 (e2 eqG) := eqG_ent fun a b la _ _ _ => eqR_c a b la
theorem same08_ent : EntOk Try.prog 36 (e2 eqG) := eqG_ent fun a b la lb wa wb => by
  have := same_ent [.d (rD a), .d (rD b)] [] _ _ _ rfl (by
    intro b' hb
    simp only [List.mem_cons, List.not_mem_nil, or_false] at hb
    rcases hb with rfl | rfl
    · exact okRow_map la wa
    · exact okRow_map lb wb)
  rw [toRow_map, toRow_map] at this
  exact this
theorem crG_ent : EntOk Try.prog 62 (e2 crG) := by
  refine e2_ok fun x x2 y c hg hc => ?_
  simp only [crG, Option.some.injEq, Prod.mk.injEq] at hg
  obtain ⟨rfl, rfl⟩ := hg
  obtain ⟨a, rfl, wa, la⟩ := isR_spec (hc (isR x) (by simp))
  obtain ⟨b, rfl, wb, lb⟩ := isR_spec (hc (isR x2) (by simp))
  rw [unR_rD, unR_rD]
  exact cr_c a b la
noncomputable def t2 : List (Nat × Ent) := [(33, e2 eqG), (36, e2 eqG), (62, e2 crG), (61, e2 cmpE), (55, e1 (gRow putD fun _ => true))]
theorem t2_ok : EntsOk Try.prog t2 := .cons eq_ent (.cons same08_ent (.cons crG_ent (.cons cmp_ent (.cons put_ent .nil))))
theorem same_c (a b : List Val) (ha : a.length ≤ 65536) (hb : b.length ≤ 65536) (wa : ∀ v ∈ a, v.wf) (wb : ∀ v ∈ b, v.wf) : C Try.prog 60 [.d (rD a), .d (rD b)] [] (fun r o => r = .d (.bool (decide (a = b))) ∧ o = []) := by
  have ok := cfT_ok t2_ok
  refine C_of_run (fn := Try.f60) (body := bodyOf Try.f60) true (by kernel_rfl) (by kernel_rfl) (by kernel_rfl) ?_
  exact WK.fin ok 1000 0 [] [isR (rD a), isR (rD b)] [] rfl (by kernel_rfl : runEnd (cfT t2) true _ 1000 0 _ _ (ini 8 [.d (rD a), .d (rD b)] []) = some (.d (.bool (decide (unR (rD a) = unR (rD b)))), [], _, _)) ⟨isR_rD ha wa, isR_rD hb wb, trivial⟩ trivial ⟨by rw [unR_rD, unR_rD], rfl⟩

theorem ov_S (a b : Bs) : RVle (.d (.int .i64 (Go.Lib.compareBytes a b))) (.d (.int .i64 (cmpS a b))) := .of_eq rfl
theorem ov_R (a b : List Val) : RVle (.d (.int .i64 (cmpR (unR (rD a)) (unR (rD b))))) (.d (.int .i64 (cmpR a b))) := .of_eq (by rw [unR_rD, unR_rD])
theorem ov_E (a b : List Val) : RVle (.d (.bool (decide (unR (rD a) = unR (rD b))))) (.d (.bool (decide (a = b)))) := .of_eq (by rw [unR_rD, unR_rD])
theorem ov_C (a b : Chg) : RVle (.d (.int .i64 (cmpC (toChg (chD a)) (toChg (chD b))))) (.d (.int .i64 (cmpC a b))) := .of_eq (by rw [toChg_chD, toChg_chD])
theorem ov_M {a : Chg} {b : Bool} (h : mayC a = b) : RVle (.d (.bool (mayC (toChg (chD a))))) (.d (.bool b)) := .of_eq (by rw [toChg_chD, h])
theorem ok_k {c : Chg} (h : Chg.ok c) : isR (rD c.k) = true := isR_rD h.2.1 h.1.1
theorem ok_o {c : Chg} (h : Chg.ok c) : isR (rD c.o) = true := isR_rD h.2.2.1 h.1.2.1
theorem ok_n {c : Chg} (h : Chg.ok c) : isR (rD c.n) = true := isR_rD h.2.2.2 h.1.2.2

theorem ccG_ent {f : Nat} (h : ∀ a b : Chg, Chg.ok a → Chg.ok b → C Try.prog f [.d (chD a), .d (chD b)] [] (fun r o => r = .d (.int .i64 (cmpC a b)) ∧ o = [])) : EntOk Try.prog f (e2 ccG) := by
  refine e2_ok fun x x2 y c hg hc => ?_
  simp only [ccG, Option.some.injEq, Prod.mk.injEq] at hg
  obtain ⟨rfl, rfl⟩ := hg
  obtain ⟨a, rfl, wa⟩ := isC_spec (hc (isC x) (by simp))
  obtain ⟨b, rfl, wb⟩ := isC_spec (hc (isC x2) (by simp))
  rw [toChg_chD, toChg_chD]
  exact h a b wa wb
theorem mc_c (a b : Chg) (ha : Chg.ok a) (hb : Chg.ok b) : C Try.prog 39 [.d (chD a), .d (chD b)] [] (fun r o => r = .d (.int .i64 (cmpC a b)) ∧ o = []) := by
  have ok := cfT_ok t2_ok
  refine C_of_run (fn := Try.f39) (body := mcC) true (by kernel_rfl) (by kernel_rfl) (by kernel_rfl) ?_
  rcases Bool.eq_false_or_eq_true (Plain.cmpS a.1 b.1 != 0 : Bool) with h12 | h12
  · skip
    exact WK.fin ok 1000 0 [(10, RV.d (DV.int Go.IntKind.i64 (Plain.cmpS a.1 b.1))), (18, RV.d (DV.int Go.IntKind.i64 (Plain.cmpR a.2 b.2))), (12, RV.d (DV.bool true))] [] [(RV.d (DV.int Go.IntKind.i64 (Go.Lib.compareBytes a.1 b.1)), RV.d (DV.int Go.IntKind.i64 (Plain.cmpS a.1 b.1))), (RV.d (DV.bool (Plain.cmpS a.1 b.1 != 0)), RV.d (DV.bool true))] rfl (by kernel_rfl : runEnd (cfT t2) true _ 1000 0 _ _ (ini 19 [.d (chD a), .d (chD b)] []) = some (RV.d (DV.int Go.IntKind.i64 (Plain.cmpS a.1 b.1)), [], _, _)) trivial ⟨(by first | exact ov_S _ _ | exact ov_R a.k b.k), le_bool h12, trivial⟩ ⟨by unfold cmpC; first | rw [if_neg (by simpa using h12)] | rw [if_pos (by simpa using h12)], rfl⟩
  · skip
    exact WK.fin ok 1000 0 [(10, RV.d (DV.int Go.IntKind.i64 (Plain.cmpS a.1 b.1))), (18, RV.d (DV.int Go.IntKind.i64 (Plain.cmpR a.2 b.2))), (12, RV.d (DV.bool false))] [isR (DV.lst 3 (List.map vD a.2) false), isR (DV.lst 3 (List.map vD b.2) false)] [(RV.d (DV.int Go.IntKind.i64 (Go.Lib.compareBytes a.1 b.1)), RV.d (DV.int Go.IntKind.i64 (Plain.cmpS a.1 b.1))), (RV.d (DV.bool (Plain.cmpS a.1 b.1 != 0)), RV.d (DV.bool false)), (RV.d (DV.int Go.IntKind.i64 (Plain.cmpR (unR (rD a.k)) (unR (rD b.k)))), RV.d (DV.int Go.IntKind.i64 (Plain.cmpR a.2 b.2)))] rfl (by kernel_rfl : runEnd (cfT t2) true _ 1000 0 _ _ (ini 19 [.d (chD a), .d (chD b)] []) = some (RV.d (DV.int Go.IntKind.i64 (Plain.cmpR a.2 b.2)), [], _, _)) (by refine ⟨?_, ?_, trivial⟩ <;> (first | exact ok_k ha | exact ok_k hb)) (by refine ⟨?_, le_bool h12, ?_, trivial⟩ <;> (first | exact ov_S _ _ | exact ov_R a.k b.k)) ⟨by unfold cmpC; first | rw [if_neg (by simpa using h12)] | rw [if_pos (by simpa using h12)], rfl⟩
noncomputable def t3 : List (Nat × Ent) := (60, e2 eqG) :: t2
theorem t3_ok : EntsOk Try.prog t3 := .cons (eqG_ent same_c) t2_ok
theorem my_c (a : Chg) (ha : Chg.ok a) : C Try.prog 38 [.d (chD a)] [] (fun r o => r = .d (.bool (mayC a)) ∧ o = []) := by
  have ok := cfT_ok t3_ok
  refine C_of_run (fn := Try.f38) (body := myC) true (by kernel_rfl) (by kernel_rfl) (by kernel_rfl) ?_
  have hkk : okRow (a.k.map vD) = true := okRow_map ha.2.1 ha.1.1
  have hoo : okRow (a.o.map vD) = true := okRow_map ha.2.2.1 ha.1.2.1
  have hnn : okRow (a.n.map vD) = true := okRow_map ha.2.2.2 ha.1.2.2
  have hml : (a.k.map vD).length = a.k.length := List.length_map ..
  by_cases c1 : a.t.length < 1
  · skip
    exact WK.fin ok 1000 0 [(10, RV.d (DV.bool true))] [] [(RV.d (DV.bool (decide ((Nat.cast (R := Int) (List.length a.t)) < 1))), RV.d (DV.bool true))] rfl (by kernel_rfl : runEnd (cfT t3) true _ 1000 0 _ _ (ini 48 [.d (chD a)] []) = some (RV.d (DV.bool false), [], _, _)) trivial ⟨(by exact le_bool (decide_eq_true (by omega))), trivial⟩ ⟨by have : ¬ 1 ≤ a.t.length := (by omega); simp [mayC, this], rfl⟩
  by_cases c2 : 32 < a.t.length
  · skip
    exact WK.fin ok 1000 0 [(10, RV.d (DV.bool false)), (15, RV.d (DV.bool true))] [] [(RV.d (DV.bool (decide ((Nat.cast (R := Int) (List.length a.t)) < 1))), RV.d (DV.bool false)), (RV.d (DV.bool (decide (32 < (Nat.cast (R := Int) (List.length a.t))))), RV.d (DV.bool true))] rfl (by kernel_rfl : runEnd (cfT t3) true _ 1000 0 _ _ (ini 48 [.d (chD a)] []) = some (RV.d (DV.bool false), [], _, _)) trivial (by refine ⟨?_, ?_, trivial⟩ <;> (first | exact le_bool (decide_eq_true (by omega)) | exact le_bool (decide_eq_false (by omega)))) ⟨by have : ¬ a.t.length ≤ 32 := (by omega); simp [mayC, this], rfl⟩
  by_cases c3 : a.k.length < 1
  · skip
    exact WK.fin ok 1000 0 [(10, RV.d (DV.bool false)), (15, RV.d (DV.bool false)), (21, RV.d (DV.bool true))] [] [(RV.d (DV.bool (decide ((Nat.cast (R := Int) (List.length a.t)) < 1))), RV.d (DV.bool false)), (RV.d (DV.bool (decide (32 < (Nat.cast (R := Int) (List.length a.t))))), RV.d (DV.bool false)), (RV.d (DV.bool (decide ((Nat.cast (R := Int) (List.map vD a.k).length) < 1))), RV.d (DV.bool true))] rfl (by kernel_rfl : runEnd (cfT t3) true _ 1000 0 _ _ (ini 48 [.d (chD a)] []) = some (RV.d (DV.bool false), [], _, _)) trivial (by refine ⟨?_, ?_, ?_, trivial⟩ <;> (first | exact le_bool (decide_eq_true (by omega)) | exact le_bool (decide_eq_false (by omega)))) ⟨by have : ¬ 1 ≤ a.k.length := (by omega); simp [mayC, this], rfl⟩
  have g1 : decide (1 ≤ a.t.length) = true := decide_eq_true (by omega)
  have g2 : decide (a.t.length ≤ 32) = true := decide_eq_true (by omega)
  have g3 : decide (1 ≤ a.k.length) = true := decide_eq_true (by omega)
  have hm : mayC a = (!decide (a.o = a.n) && rowB a.k && rowB a.o && rowB a.n) := by simp only [mayC, g1, g2, g3, Bool.true_and]
  rw [hm]
  have bad : ∀ {l : List Val}, ((putRow (toRow (l.map vD))).2 != 0) = true → rowB l = false := fun {l} h => by
    rw [toRow_map] at h; simpa [rowB] using h
  have good : ∀ {l : List Val}, ((putRow (toRow (l.map vD))).2 != 0) = false → rowB l = true := fun {l} h => by
    rw [toRow_map] at h; simpa [rowB] using h
  have w3 : WK Try.prog 0 (stackAt myC 0) (myS a 3).den (Ends (Try.f38.results.toList) (.d (.bool true))) := by
    exact WK.fin ok 1000 0 [] [] [] rfl (by kernel_rfl : runEnd (cfT t3) true _ 1000 0 _ _ (myS a 3) = some (RV.d (DV.bool true), [], _, _)) trivial trivial ⟨rfl, rfl⟩
  have w2 : WK Try.prog 0 (stackAt myC 0) (myS a 2).den (Ends (Try.f38.results.toList) (.d (.bool (rowB a.n)))) := by
    rcases Bool.eq_false_or_eq_true ((Plain.putRow (toRow (List.map vD a.n))).2 != 0 : Bool) with h46 | h46
    · skip
      exact WK.fin ok 1000 0 [(46, RV.d (DV.bool true))] [true, okRow (List.map vD a.4), true] [(RV.d (DV.bool ((Plain.putRow (toRow (List.map vD a.n))).2 != 0)), RV.d (DV.bool true))] rfl (by kernel_rfl : runEnd (cfT t3) true _ 1000 0 _ _ (myS a 2) = some (RV.d (DV.bool false), [], _, _)) (by refine ⟨?_, ?_, ?_, trivial⟩ <;> (first | exact hnn | rfl)) ⟨le_bool h46, trivial⟩ ⟨by rw [bad h46], rfl⟩
    · skip
      refine WK.segA ok 1000 0 [(46, RV.d (DV.bool false))] [] [36, 37] [true, okRow (List.map vD a.4), true] [(RV.d (DV.bool ((Plain.putRow (toRow (List.map vD a.n))).2 != 0)), RV.d (DV.bool false))] rfl (by kernel_rfl : runSegA (cfT t3) 1000 0 _ _ _ _ (myS a 2) = some (stackAt myC 0, myS a 3, _, _)) (by refine ⟨?_, ?_, ?_, trivial⟩ <;> (first | exact hnn | rfl)) ⟨le_bool h46, trivial⟩ ?_
      rw [good h46]; exact w3
  have w1 : WK Try.prog 0 (stackAt myC 0) (myS a 1).den (Ends (Try.f38.results.toList) (.d (.bool (rowB a.o && rowB a.n)))) := by
    rcases Bool.eq_false_or_eq_true ((Plain.putRow (toRow (List.map vD a.o))).2 != 0 : Bool) with h46 | h46
    · skip
      exact WK.fin ok 1000 0 [(46, RV.d (DV.bool true))] [true, okRow (List.map vD a.3), true] [(RV.d (DV.bool ((Plain.putRow (toRow (List.map vD a.o))).2 != 0)), RV.d (DV.bool true))] rfl (by kernel_rfl : runEnd (cfT t3) true _ 1000 0 _ _ (myS a 1) = some (RV.d (DV.bool false), [], _, _)) (by refine ⟨?_, ?_, ?_, trivial⟩ <;> (first | exact hoo | rfl)) ⟨le_bool h46, trivial⟩ ⟨by rw [bad h46]; rfl, rfl⟩
    · skip
      refine WK.segA ok 1000 0 [(46, RV.d (DV.bool false))] [] [36, 37] [true, okRow (List.map vD a.3), true] [(RV.d (DV.bool ((Plain.putRow (toRow (List.map vD a.o))).2 != 0)), RV.d (DV.bool false))] rfl (by kernel_rfl : runSegA (cfT t3) 1000 0 _ _ _ _ (myS a 1) = some (stackAt myC 0, myS a 2, _, _)) (by refine ⟨?_, ?_, ?_, trivial⟩ <;> (first | exact hoo | rfl)) ⟨le_bool h46, trivial⟩ ?_
      rw [good h46, Bool.true_and]; exact w2
  have w0 : WK Try.prog 0 (stackAt myC 0) (myS a 0).den (Ends (Try.f38.results.toList) (.d (.bool (rowB a.k && rowB a.o && rowB a.n)))) := by
    rcases Bool.eq_false_or_eq_true ((Plain.putRow (toRow (List.map vD a.k))).2 != 0 : Bool) with h46 | h46
    · skip
      exact WK.fin ok 1000 0 [(46, RV.d (DV.bool true))] [true, okRow (List.map vD a.2), true] [(RV.d (DV.bool ((Plain.putRow (toRow (List.map vD a.k))).2 != 0)), RV.d (DV.bool true))] rfl (by kernel_rfl : runEnd (cfT t3) true _ 1000 0 _ _ (myS a 0) = some (RV.d (DV.bool false), [], _, _)) (by refine ⟨?_, ?_, ?_, trivial⟩ <;> (first | exact hkk | rfl)) ⟨le_bool h46, trivial⟩ ⟨by rw [bad h46]; rfl, rfl⟩
    · skip
      refine WK.segA ok 1000 0 [(46, RV.d (DV.bool false))] [] [36, 37] [true, okRow (List.map vD a.2), true] [(RV.d (DV.bool ((Plain.putRow (toRow (List.map vD a.k))).2 != 0)), RV.d (DV.bool false))] rfl (by kernel_rfl : runSegA (cfT t3) 1000 0 _ _ _ _ (myS a 0) = some (stackAt myC 0, myS a 1, _, _)) (by refine ⟨?_, ?_, ?_, trivial⟩ <;> (first | exact hkk | rfl)) ⟨le_bool h46, trivial⟩ ?_
      rw [good h46, Bool.true_and]; exact w1
  rcases Bool.eq_false_or_eq_true (decide (a.o = a.n) : Bool) with h29 | h29
  · skip
    exact WK.fin ok 1000 0 [(10, RV.d (DV.bool false)), (15, RV.d (DV.bool false)), (21, RV.d (DV.bool false)), (28, RV.d (DV.bool (decide (a.o = a.n)))), (29, RV.d (DV.bool true))] [isR (DV.lst 3 (List.map vD a.3) false), isR (DV.lst 3 (List.map vD a.4) false)] [(RV.d (DV.bool (decide ((Nat.cast (R := Int) (List.length a.t)) < 1))), RV.d (DV.bool false)), (RV.d (DV.bool (decide (32 < (Nat.cast (R := Int) (List.length a.t))))), RV.d (DV.bool false)), (RV.d (DV.bool (decide ((Nat.cast (R := Int) (List.map vD a.k).length) < 1))), RV.d (DV.bool false)), (RV.d (DV.bool (decide (unR (rD a.o) = unR (rD a.n)))), RV.d (DV.bool (decide (a.o = a.n)))), (RV.d (DV.bool (decide (a.o = a.n))), RV.d (DV.bool true))] rfl (by kernel_rfl : runEnd (cfT t3) true _ 1000 0 _ _ (ini 48 [.d (chD a)] []) = some (RV.d (DV.bool false), [], _, _)) (by refine ⟨?_, ?_, trivial⟩ <;> (first | exact ok_o ha | exact ok_n ha)) (by refine ⟨?_, ?_, ?_, ?_, le_bool h29, trivial⟩ <;> (first | exact ov_E a.o a.n | exact le_bool (decide_eq_true (by omega)) | exact le_bool (decide_eq_false (by omega)))) ⟨by rw [h29]; rfl, rfl⟩
  · skip
    refine WK.segA ok 1000 0 [(10, RV.d (DV.bool false)), (15, RV.d (DV.bool false)), (21, RV.d (DV.bool false)), (28, RV.d (DV.bool (decide (a.o = a.n)))), (29, RV.d (DV.bool false))] [] [36, 37] [isR (DV.lst 3 (List.map vD a.3) false), isR (DV.lst 3 (List.map vD a.4) false)] [(RV.d (DV.bool (decide ((Nat.cast (R := Int) (List.length a.t)) < 1))), RV.d (DV.bool false)), (RV.d (DV.bool (decide (32 < (Nat.cast (R := Int) (List.length a.t))))), RV.d (DV.bool false)), (RV.d (DV.bool (decide ((Nat.cast (R := Int) (List.map vD a.k).length) < 1))), RV.d (DV.bool false)), (RV.d (DV.bool (decide (unR (rD a.o) = unR (rD a.n)))), RV.d (DV.bool (decide (a.o = a.n)))), (RV.d (DV.bool (decide (a.o = a.n))), RV.d (DV.bool false))] rfl (by kernel_rfl : runSegA (cfT t3) 1000 0 _ _ _ _ (ini 48 [.d (chD a)] []) = some (stackAt myC 0, myS a 0, _, _)) (by refine ⟨?_, ?_, trivial⟩ <;> (first | exact ok_o ha | exact ok_n ha)) (by refine ⟨?_, ?_, ?_, ?_, le_bool h29, trivial⟩ <;> (first | exact ov_E a.o a.n | exact le_bool (decide_eq_true (by omega)) | exact le_bool (decide_eq_false (by omega)))) ?_
    rw [h29]
    simp only [Bool.not_false, Bool.true_and]
    exact w0
theorem my_ent : EntOk Try.prog 38 (e1 myG) := by
  refine e1_ok fun x y c hg hc => ?_
  simp only [myG, Option.some.injEq, Prod.mk.injEq] at hg
  obtain ⟨rfl, rfl⟩ := hg
  obtain ⟨a, rfl, wa⟩ := isC_spec (hc (isC x) (by simp))
  rw [toChg_chD]
  exact my_c a wa
noncomputable def t4 : List (Nat × Ent) := (38, e1 myG) :: (39, e2 ccG) :: t3
theorem t4_ok : EntsOk Try.prog t4 := .cons my_ent (.cons (ccG_ent mc_c) t3_ok)

/-- what stands ahead of a place -/
def ahead (l : List Chg) : Nat → Option Chg
  | 0 => none
  | i + 1 => l[i]?
theorem mayI_cons (p : Option Chg) (x : Chg) (r : List Chg) : mayI p (x :: r) = (mayC x && (match p with | none => true | some y => decide (cmpC y x < 0)) && mayI (some x) r) := by cases p <;> rfl
theorem mayI_drop {l : List Chg} {i : Nat} (h : i < l.length) : mayI (ahead l i) (l.drop i) = (mayC l[i] && (match ahead l i with | none => true | some y => decide (cmpC y l[i] < 0)) && mayI (ahead l (i + 1)) (l.drop (i + 1))) := by
  rw [List.drop_eq_getElem_cons h, mayI_cons]
  simp only [ahead, List.getElem?_eq_getElem h]
theorem ck_c (l : List Chg) (hl : okL l) : C Try.prog 17 [.d (chL l)] [] (fun r o => r = .d (.int .i64 (if mayL l then 0 else 2)) ∧ o = []) := by
  have ok := cfT_ok t4_ok
  refine C_of_run (fn := Try.f17) (body := ckC) true (by kernel_rfl) (by kernel_rfl) (by kernel_rfl) ?_
  have hml : (l.map chD).length = l.length := List.length_map ..
  have hok := hl.2
  have hloop : l.length ≤ 1000 → WK Try.prog 0 (stackAt ckC 0) (ckS (l.map chD) 0).den (Ends (Try.f17.results.toList) (.d (.int .i64 (if mayL l then 0 else 2)))) := by
    intro hlen
    have hmay : mayL l = mayI none l := by simp [mayL, hlen]
    rw [hmay]
    refine WK.rec' (fun i => ckS (l.map chD) i) (fun i => i ≤ l.length ∧ mayI (ahead l i) (l.drop i) = mayI none l) (fun i => l.length - i) ?_ 0 ⟨Nat.zero_le _, rfl⟩
    rintro i ⟨hi, ht⟩ ih
    obtain ⟨x, hx⟩ := at_chg l i
    have hxo : i < l.length → Chg.ok x := fun h => by rw [← hx h]; exact hok _ (List.getElem_mem h)
    have hend : decide ((Nat.cast (R := Int) i) < (Nat.cast (R := Int) (l.map chD).length)) = false → mayI none l = true := fun h => by
      rw [← ht, List.drop_eq_nil_of_le (ge_map h)]; rfl
    have hstep : i < l.length → mayI none l = (mayC x && (match ahead l i with | none => true | some y => decide (cmpC y x < 0)) && mayI (ahead l (i + 1)) (l.drop (i + 1))) := fun h => by
      rw [← ht, mayI_drop h, hx h]
    by_cases hm : mayC x = true
    · cases i with
      | zero =>
        rcases Bool.eq_false_or_eq_true (decide ((Nat.cast (R := Int) 0) < (Nat.cast (R := Int) (l.map chD).length)) : Bool) with h11 | h11
        · skip
          refine WK.segA ok 1000 0 [(13, RV.iptr (DV.agg [DV.str x.1, DV.lst 3 (List.map vD x.2) false, DV.lst 3 (List.map vD x.3) false, DV.lst 3 (List.map vD x.4) false]) 0), (16, RV.d (DV.bool true)), (20, RV.d (DV.bool false)), (31, RV.d (DV.bool false)), (32, RV.d (DV.int Go.IntKind.i64 (Nat.cast (R := Int) (0 + 1)))), (11, RV.d (DV.bool true))] [] [0, 8, 9, 10] [decide (0 ≤ (Nat.cast (R := Int) 0) ∧ (Nat.cast (R := Int) 0) < (Nat.cast (R := Int) (l.map chD).length)), isC (DV.agg [DV.str x.1, DV.lst 3 (List.map vD x.2) false, DV.lst 3 (List.map vD x.3) false, DV.lst 3 (List.map vD x.4) false])] [(RV.d (DV.bool (decide ((Nat.cast (R := Int) 0) < (Nat.cast (R := Int) (l.map chD).length)))), RV.d (DV.bool true)), (RV.iptr ((l.map chD).getD (Nat.cast (R := Int) 0).toNat DV.nilp) 0, RV.iptr (DV.agg [DV.str x.1, DV.lst 3 (List.map vD x.2) false, DV.lst 3 (List.map vD x.3) false, DV.lst 3 (List.map vD x.4) false]) 0), (RV.d (DV.bool (Plain.mayC { t := x.1, k := List.map toVal (List.map vD x.k), o := List.map toVal (List.map vD x.o), n := List.map toVal (List.map vD x.n) })), RV.d (DV.bool true)), (RV.d (DV.bool (decide (0 < (Nat.cast (R := Int) 0)))), RV.d (DV.bool false)), (RV.d (DV.bool (match !true with | true => true | false => false)), RV.d (DV.bool false)), (RV.d (DV.int Go.IntKind.i64 (Go.IntKind.i64.wrap ((Nat.cast (R := Int) 0) + 1))), RV.d (DV.int Go.IntKind.i64 (Nat.cast (R := Int) (0 + 1))))] rfl (by kernel_rfl : runSegA (cfT t4) 1000 0 _ _ _ _ (ckS (l.map chD) 0) = some (stackAt ckC 0, ckS (l.map chD) (0 + 1), _, _)) (by refine ⟨?_, ?_, trivial⟩ <;> (first | exact bd_map (i := 0) (lt_map h11) | exact isC_chD (hxo (lt_map h11)))) (by refine ⟨le_bool h11, ?_, ?_, ?_, ?_, ?_, trivial⟩ <;> (first | exact ov_chg (i := 0) (lt_map h11) (hx (lt_map h11)) | exact ov_M hm | exact ov_succ (by omega) | exact le_bool rfl)) ?_
          have hlt := lt_map h11
          refine ih (0 + 1) ⟨hlt, ?_⟩ (by omega)
          rw [hstep hlt, hm]; simp [ahead]
        · skip
          exact WK.fin ok 1000 0 [(13, RV.iptr (DV.agg [DV.str x.1, DV.lst 3 (List.map vD x.2) false, DV.lst 3 (List.map vD x.3) false, DV.lst 3 (List.map vD x.4) false]) 0), (16, RV.d (DV.bool true)), (20, RV.d (DV.bool false)), (31, RV.d (DV.bool false)), (32, RV.d (DV.int Go.IntKind.i64 (Nat.cast (R := Int) (0 + 1)))), (11, RV.d (DV.bool false))] [] [(RV.d (DV.bool (decide ((Nat.cast (R := Int) 0) < (Nat.cast (R := Int) (l.map chD).length)))), RV.d (DV.bool false))] rfl (by kernel_rfl : runEnd (cfT t4) true _ 1000 0 _ _ (ckS (l.map chD) 0) = some (RV.d (DV.int Go.IntKind.i64 (0)), [], _, _)) trivial ⟨le_bool h11, trivial⟩ ⟨by rw [hend h11]; rfl, rfl⟩
      | succ m =>
        obtain ⟨y, hy⟩ := at_chg l m
        have hah : m < l.length → ahead l (m + 1) = some y := fun h => by rw [ahead, List.getElem?_eq_getElem h, hy h]
        have hbad : m + 1 < l.length → 0 ≤ cmpC y x → mayI none l = false := fun h e => by
          rw [hstep h, hah (by omega)]
          simp only
          rw [decide_eq_false (by omega : ¬ cmpC y x < 0), Bool.and_false, Bool.false_and]
        have hyo : m < l.length → Chg.ok y := fun h => by rw [← hy h]; exact hok _ (List.getElem_mem h)
        rcases Bool.eq_false_or_eq_true (decide ((Nat.cast (R := Int) (m + 1)) < (Nat.cast (R := Int) (l.map chD).length)) : Bool) with h11 | h11
        · skip
          rcases Bool.eq_false_or_eq_true (match !true with | true => true | false => bif true then decide (0 ≤ Plain.cmpC y x) else false : Bool) with h31 | h31
          · skip
            exact WK.fin ok 1000 0 [(13, RV.iptr (DV.agg [DV.str x.1, DV.lst 3 (List.map vD x.2) false, DV.lst 3 (List.map vD x.3) false, DV.lst 3 (List.map vD x.4) false]) 0), (16, RV.d (DV.bool true)), (20, RV.d (DV.bool true)), (24, RV.d (DV.int Go.IntKind.i64 (Nat.cast (R := Int) m))), (25, RV.iptr (DV.agg [DV.str y.1, DV.lst 3 (List.map vD y.2) false, DV.lst 3 (List.map vD y.3) false, DV.lst 3 (List.map vD y.4) false]) 0), (28, RV.d (DV.int Go.IntKind.i64 (Plain.cmpC y x))), (32, RV.d (DV.int Go.IntKind.i64 (Nat.cast (R := Int) ((m + 1) + 1)))), (11, RV.d (DV.bool true)), (31, RV.d (DV.bool true))] [decide (0 ≤ (Nat.cast (R := Int) (m + 1)) ∧ (Nat.cast (R := Int) (m + 1)) < (Nat.cast (R := Int) (l.map chD).length)), isC (DV.agg [DV.str x.1, DV.lst 3 (List.map vD x.2) false, DV.lst 3 (List.map vD x.3) false, DV.lst 3 (List.map vD x.4) false]), decide (0 ≤ (Nat.cast (R := Int) m) ∧ (Nat.cast (R := Int) m) < (Nat.cast (R := Int) (l.map chD).length)), isC (DV.agg (List.take 4 (List.drop 0 (DV.agg [DV.str y.1, DV.lst 3 (List.map vD y.2) false, DV.lst 3 (List.map vD y.3) false, DV.lst 3 (List.map vD y.4) false]).cells))), isC (DV.agg [DV.str x.1, DV.lst 3 (List.map vD x.2) false, DV.lst 3 (List.map vD x.3) false, DV.lst 3 (List.map vD x.4) false])] [(RV.d (DV.bool (decide ((Nat.cast (R := Int) (m + 1)) < (Nat.cast (R := Int) (l.map chD).length)))), RV.d (DV.bool true)), (RV.iptr ((l.map chD).getD (Nat.cast (R := Int) (m + 1)).toNat DV.nilp) 0, RV.iptr (DV.agg [DV.str x.1, DV.lst 3 (List.map vD x.2) false, DV.lst 3 (List.map vD x.3) false, DV.lst 3 (List.map vD x.4) false]) 0), (RV.d (DV.bool (Plain.mayC { t := x.1, k := List.map toVal (List.map vD x.k), o := List.map toVal (List.map vD x.o), n := List.map toVal (List.map vD x.n) })), RV.d (DV.bool true)), (RV.d (DV.bool (decide (0 < (Nat.cast (R := Int) (m + 1))))), RV.d (DV.bool true)), (RV.d (DV.int Go.IntKind.i64 (Go.IntKind.i64.wrap ((Nat.cast (R := Int) (m + 1)) - 1))), RV.d (DV.int Go.IntKind.i64 (Nat.cast (R := Int) m))), (RV.iptr ((l.map chD).getD (Nat.cast (R := Int) m).toNat DV.nilp) 0, RV.iptr (DV.agg [DV.str y.1, DV.lst 3 (List.map vD y.2) false, DV.lst 3 (List.map vD y.3) false, DV.lst 3 (List.map vD y.4) false]) 0), (RV.d (DV.int Go.IntKind.i64 (Plain.cmpC { t := y.1, k := List.map toVal (List.map vD y.k), o := List.map toVal (List.map vD y.o), n := List.map toVal (List.map vD y.n) } { t := x.1, k := List.map toVal (List.map vD x.k), o := List.map toVal (List.map vD x.o), n := List.map toVal (List.map vD x.n) })), RV.d (DV.int Go.IntKind.i64 (Plain.cmpC y x))), (RV.d (DV.bool (match !true with | true => true | false => bif true then decide (0 ≤ Plain.cmpC y x) else false)), RV.d (DV.bool true))] rfl (by kernel_rfl : runEnd (cfT t4) true _ 1000 0 _ _ (ckS (l.map chD) (m + 1)) = some (RV.d (DV.int Go.IntKind.i64 (2)), [], _, _)) (by refine ⟨?_, ?_, ?_, ?_, ?_, trivial⟩ <;> (have hlt := lt_map h11; first | exact bd_map hlt | exact isC_chD (hxo hlt) | exact bd_map (i := m) (by omega) | exact isC_chD (hyo (by omega)))) (by refine ⟨le_bool h11, ?_, ?_, ?_, ?_, ?_, ?_, le_bool h31, trivial⟩ <;> (have hlt := lt_map h11; first | exact ov_chg hlt (hx hlt) | exact ov_M hm | exact ov_succ (by omega) | exact ov_chg (i := m) (by omega) (hy (by omega)) | exact ov_C y x | exact le_bool (decide_eq_true (by omega)) | (refine .of_eq ?_; rw [i64_in _ (by omega)]; congr 2; omega) | exact le_bool h31)) ⟨by first | (rw [hend h11]; rfl) | (rw [hbad (lt_map h11) (of_decide_eq_true h31)]; rfl), rfl⟩
          · skip
            refine WK.segA ok 1000 0 [(13, RV.iptr (DV.agg [DV.str x.1, DV.lst 3 (List.map vD x.2) false, DV.lst 3 (List.map vD x.3) false, DV.lst 3 (List.map vD x.4) false]) 0), (16, RV.d (DV.bool true)), (20, RV.d (DV.bool true)), (24, RV.d (DV.int Go.IntKind.i64 (Nat.cast (R := Int) m))), (25, RV.iptr (DV.agg [DV.str y.1, DV.lst 3 (List.map vD y.2) false, DV.lst 3 (List.map vD y.3) false, DV.lst 3 (List.map vD y.4) false]) 0), (28, RV.d (DV.int Go.IntKind.i64 (Plain.cmpC y x))), (32, RV.d (DV.int Go.IntKind.i64 (Nat.cast (R := Int) ((m + 1) + 1)))), (11, RV.d (DV.bool true)), (31, RV.d (DV.bool false))] [] [0, 8, 9, 10] [decide (0 ≤ (Nat.cast (R := Int) (m + 1)) ∧ (Nat.cast (R := Int) (m + 1)) < (Nat.cast (R := Int) (l.map chD).length)), isC (DV.agg [DV.str x.1, DV.lst 3 (List.map vD x.2) false, DV.lst 3 (List.map vD x.3) false, DV.lst 3 (List.map vD x.4) false]), decide (0 ≤ (Nat.cast (R := Int) m) ∧ (Nat.cast (R := Int) m) < (Nat.cast (R := Int) (l.map chD).length)), isC (DV.agg (List.take 4 (List.drop 0 (DV.agg [DV.str y.1, DV.lst 3 (List.map vD y.2) false, DV.lst 3 (List.map vD y.3) false, DV.lst 3 (List.map vD y.4) false]).cells))), isC (DV.agg [DV.str x.1, DV.lst 3 (List.map vD x.2) false, DV.lst 3 (List.map vD x.3) false, DV.lst 3 (List.map vD x.4) false])] [(RV.d (DV.bool (decide ((Nat.cast (R := Int) (m + 1)) < (Nat.cast (R := Int) (l.map chD).length)))), RV.d (DV.bool true)), (RV.iptr ((l.map chD).getD (Nat.cast (R := Int) (m + 1)).toNat DV.nilp) 0, RV.iptr (DV.agg [DV.str x.1, DV.lst 3 (List.map vD x.2) false, DV.lst 3 (List.map vD x.3) false, DV.lst 3 (List.map vD x.4) false]) 0), (RV.d (DV.bool (Plain.mayC { t := x.1, k := List.map toVal (List.map vD x.k), o := List.map toVal (List.map vD x.o), n := List.map toVal (List.map vD x.n) })), RV.d (DV.bool true)), (RV.d (DV.bool (decide (0 < (Nat.cast (R := Int) (m + 1))))), RV.d (DV.bool true)), (RV.d (DV.int Go.IntKind.i64 (Go.IntKind.i64.wrap ((Nat.cast (R := Int) (m + 1)) - 1))), RV.d (DV.int Go.IntKind.i64 (Nat.cast (R := Int) m))), (RV.iptr ((l.map chD).getD (Nat.cast (R := Int) m).toNat DV.nilp) 0, RV.iptr (DV.agg [DV.str y.1, DV.lst 3 (List.map vD y.2) false, DV.lst 3 (List.map vD y.3) false, DV.lst 3 (List.map vD y.4) false]) 0), (RV.d (DV.int Go.IntKind.i64 (Plain.cmpC { t := y.1, k := List.map toVal (List.map vD y.k), o := List.map toVal (List.map vD y.o), n := List.map toVal (List.map vD y.n) } { t := x.1, k := List.map toVal (List.map vD x.k), o := List.map toVal (List.map vD x.o), n := List.map toVal (List.map vD x.n) })), RV.d (DV.int Go.IntKind.i64 (Plain.cmpC y x))), (RV.d (DV.bool (match !true with | true => true | false => bif true then decide (0 ≤ Plain.cmpC y x) else false)), RV.d (DV.bool false)), (RV.d (DV.int Go.IntKind.i64 (Go.IntKind.i64.wrap ((Nat.cast (R := Int) (m + 1)) + 1))), RV.d (DV.int Go.IntKind.i64 (Nat.cast (R := Int) ((m + 1) + 1))))] rfl (by kernel_rfl : runSegA (cfT t4) 1000 0 _ _ _ _ (ckS (l.map chD) (m + 1)) = some (stackAt ckC 0, ckS (l.map chD) (m + 1 + 1), _, _)) (by refine ⟨?_, ?_, ?_, ?_, ?_, trivial⟩ <;> (have hlt := lt_map h11; first | exact bd_map hlt | exact isC_chD (hxo hlt) | exact bd_map (i := m) (by omega) | exact isC_chD (hyo (by omega)))) (by refine ⟨le_bool h11, ?_, ?_, ?_, ?_, ?_, ?_, le_bool h31, ?_, trivial⟩ <;> (have hlt := lt_map h11; first | exact ov_chg hlt (hx hlt) | exact ov_M hm | exact ov_succ (by omega) | exact ov_chg (i := m) (by omega) (hy (by omega)) | exact ov_C y x | exact le_bool (decide_eq_true (by omega)) | (refine .of_eq ?_; rw [i64_in _ (by omega)]; congr 2; omega) | exact le_bool h31)) ?_
            have hlt := lt_map h11
            refine ih (m + 1 + 1) ⟨hlt, ?_⟩ (by omega)
            have e : decide (0 ≤ cmpC y x) = false := h31
            have e2 := of_decide_eq_false e
            rw [hstep hlt, hah (by omega), hm]
            simp only
            rw [decide_eq_true (by omega : cmpC y x < 0)]; rfl
        · skip
          exact WK.fin ok 1000 0 [(13, RV.iptr (DV.agg [DV.str x.1, DV.lst 3 (List.map vD x.2) false, DV.lst 3 (List.map vD x.3) false, DV.lst 3 (List.map vD x.4) false]) 0), (16, RV.d (DV.bool true)), (20, RV.d (DV.bool true)), (24, RV.d (DV.int Go.IntKind.i64 (Nat.cast (R := Int) m))), (25, RV.iptr (DV.agg [DV.str y.1, DV.lst 3 (List.map vD y.2) false, DV.lst 3 (List.map vD y.3) false, DV.lst 3 (List.map vD y.4) false]) 0), (28, RV.d (DV.int Go.IntKind.i64 (Plain.cmpC y x))), (32, RV.d (DV.int Go.IntKind.i64 (Nat.cast (R := Int) ((m + 1) + 1)))), (11, RV.d (DV.bool false))] [] [(RV.d (DV.bool (decide ((Nat.cast (R := Int) (m + 1)) < (Nat.cast (R := Int) (l.map chD).length)))), RV.d (DV.bool false))] rfl (by kernel_rfl : runEnd (cfT t4) true _ 1000 0 _ _ (ckS (l.map chD) (m + 1)) = some (RV.d (DV.int Go.IntKind.i64 (0)), [], _, _)) trivial ⟨le_bool h11, trivial⟩ ⟨by first | (rw [hend h11]; rfl) | (rw [hbad (lt_map h11) (of_decide_eq_true h31)]; rfl), rfl⟩
    · have hm' : mayC x = false := by simpa using hm
      rcases Bool.eq_false_or_eq_true (decide ((Nat.cast (R := Int) i) < (Nat.cast (R := Int) (l.map chD).length)) : Bool) with h11 | h11
      · skip
        exact WK.fin ok 1000 0 [(13, RV.iptr (DV.agg [DV.str x.1, DV.lst 3 (List.map vD x.2) false, DV.lst 3 (List.map vD x.3) false, DV.lst 3 (List.map vD x.4) false]) 0), (16, RV.d (DV.bool false)), (11, RV.d (DV.bool true))] [decide (0 ≤ (Nat.cast (R := Int) i) ∧ (Nat.cast (R := Int) i) < (Nat.cast (R := Int) (l.map chD).length)), isC (DV.agg [DV.str x.1, DV.lst 3 (List.map vD x.2) false, DV.lst 3 (List.map vD x.3) false, DV.lst 3 (List.map vD x.4) false])] [(RV.d (DV.bool (decide ((Nat.cast (R := Int) i) < (Nat.cast (R := Int) (l.map chD).length)))), RV.d (DV.bool true)), (RV.iptr ((l.map chD).getD (Nat.cast (R := Int) i).toNat DV.nilp) 0, RV.iptr (DV.agg [DV.str x.1, DV.lst 3 (List.map vD x.2) false, DV.lst 3 (List.map vD x.3) false, DV.lst 3 (List.map vD x.4) false]) 0), (RV.d (DV.bool (Plain.mayC { t := x.1, k := List.map toVal (List.map vD x.k), o := List.map toVal (List.map vD x.o), n := List.map toVal (List.map vD x.n) })), RV.d (DV.bool false))] rfl (by kernel_rfl : runEnd (cfT t4) true _ 1000 0 _ _ (ckS (l.map chD) i) = some (RV.d (DV.int Go.IntKind.i64 (2)), [], _, _)) (by refine ⟨?_, ?_, trivial⟩ <;> (have hlt := lt_map h11; first | exact bd_map hlt | exact isC_chD (hxo hlt))) (by refine ⟨le_bool h11, ?_, ?_, trivial⟩ <;> (have hlt := lt_map h11; first | exact ov_chg hlt (hx hlt) | exact ov_M hm')) ⟨by first | (rw [hend h11]; rfl) | (have e : mayI none l = false := (by rw [hstep (lt_map h11), hm']; rfl); rw [e]; rfl), rfl⟩
      · skip
        exact WK.fin ok 1000 0 [(13, RV.iptr (DV.agg [DV.str x.1, DV.lst 3 (List.map vD x.2) false, DV.lst 3 (List.map vD x.3) false, DV.lst 3 (List.map vD x.4) false]) 0), (16, RV.d (DV.bool false)), (11, RV.d (DV.bool false))] [] [(RV.d (DV.bool (decide ((Nat.cast (R := Int) i) < (Nat.cast (R := Int) (l.map chD).length)))), RV.d (DV.bool false))] rfl (by kernel_rfl : runEnd (cfT t4) true _ 1000 0 _ _ (ckS (l.map chD) i) = some (RV.d (DV.int Go.IntKind.i64 (0)), [], _, _)) trivial ⟨le_bool h11, trivial⟩ ⟨by first | (rw [hend h11]; rfl) | (have e : mayI none l = false := (by rw [hstep (lt_map h11), hm']; rfl); rw [e]; rfl), rfl⟩
  rcases Bool.eq_false_or_eq_true (decide (1000 < (Nat.cast (R := Int) (l.map chD).length)) : Bool) with h7 | h7
  · skip
    exact WK.fin ok 1000 0 [(7, RV.d (DV.bool true))] [] [(RV.d (DV.bool (decide (1000 < (Nat.cast (R := Int) (l.map chD).length)))), RV.d (DV.bool true))] rfl (by kernel_rfl : runEnd (cfT t4) true _ 1000 0 _ _ (ini 33 [.d (chL l)] []) = some (RV.d (DV.int Go.IntKind.i64 (2)), [], _, _)) trivial ⟨le_bool h7, trivial⟩ ⟨by have e := of_decide_eq_true h7; have e2 : ¬ l.length ≤ 1000 := (by omega); simp [mayL, e2], rfl⟩
  · skip
    refine WK.segA ok 1000 0 [(7, RV.d (DV.bool false))] [] [0, 8, 9, 10] [] [(RV.d (DV.bool (decide (1000 < (Nat.cast (R := Int) (l.map chD).length)))), RV.d (DV.bool false))] rfl (by kernel_rfl : runSegA (cfT t4) 1000 0 _ _ _ _ (ini 33 [.d (chL l)] []) = some (stackAt ckC 0, ckS (l.map chD) 0, _, _)) trivial ⟨le_bool h7, trivial⟩ ?_
    have e := of_decide_eq_false h7
    exact hloop (by omega)
theorem ck_ent : EntOk Try.prog 17 (e1 ckG) := by
  refine e1_ok fun x y c hg hc => ?_
  simp only [ckG, Option.some.injEq, Prod.mk.injEq] at hg
  obtain ⟨rfl, rfl⟩ := hg
  obtain ⟨l, rfl, hl⟩ := isL_spec (hc (isL x) (by simp))
  rw [unL_chL]
  exact ck_c l hl
theorem ov_Eb {a b : List Val} {q : Bool} (h : decide (a = b) = q) : RVle (.d (.bool (decide (unR (rD a) = unR (rD b))))) (.d (.bool q)) := .of_eq (by rw [unR_rD, unR_rD, h])
end Go.Proofs.Ytljfolepmkcjlaa

/-
  Plain facts about a changeset's bytes: what each of the two readings comes to. No program in sight.
-/
namespace Go.Proofs.Ytljfolepmkcjlaa.Plain

/-- a record with its length ahead, and what is left behind it -/
def partN (s : Bs) : Option (List Val × Bs) :=
  if (takeN s).2.2 ≠ 0 then none else
  if (takeN s).1 > (s.drop (takeN s).2.1).length then none else
  match takeRow ((s.drop (takeN s).2.1).take (takeN s).1) with
  | none => none
  | some l => some (l, (s.drop (takeN s).2.1).drop (takeN s).1)
/-- a change and what is left behind it -/
def chgN (s : Bs) : Option (Chg × Bs) :=
  match partN s with
  | none => none
  | some (t, s1) => match partN s1 with
    | none => none
    | some (k, s2) => match partN s2 with
      | none => none
      | some (o, s3) => match partN s3 with
        | none => none
        | some (n, s4) => match t with
          | [v] => if v.k = 2 then some (⟨v.s, k, o, n⟩, s4) else none
          | _ => none
def chgsN : Nat → Bs → Option (List Chg × Bs)
  | 0, s => some ([], s)
  | m + 1, s => match chgN s with
    | none => none
    | some (x, r) => (chgsN m r).map fun p => (x :: p.1, p.2)
/-- the changeset that bytes are -/
def takeC (s : Bs) : Option (List Chg) :=
  if (takeN s).2.2 ≠ 0 ∨ (takeN s).1 > 1000 then none else
  match chgsN (takeN s).1 (s.drop (takeN s).2.1) with
  | none => none
  | some (l, r) => if r = [] ∧ mayL l = true then some l else none

/-! The same, step by step, with a flag that tells whether all went well. -/
structure Rd where
  s : Bs
  ok : Bool
def cntI (p : Rd) : Nat × Rd := (if (takeN p.s).1 ≤ 4000 then (takeN p.s).1 else 4000, ⟨p.s.drop (takeN p.s).2.1, p.ok && decide ((takeN p.s).2.2 = 0) && decide ((takeN p.s).1 ≤ 4000)⟩)
/-- a row of so many bytes -/
def rowJ (n : Nat) (p : Rd) : List Val × Rd := ((takeRow (p.s.take n)).getD [], ⟨p.s.drop n, p.ok && decide (n ≤ p.s.length) && (takeRow (p.s.take n)).isSome⟩)
def rowI (p : Rd) : List Val × Rd := rowJ (cntI p).1 (cntI p).2
/-- the text that a row of one text has -/
def txtI : List Val → Option Bs
  | [v] => if v.k = 2 then some v.s else none
  | _ => none
def itI (p : Rd) : Chg × Rd :=
  let a := rowI p
  let b := rowI a.2
  let c := rowI b.2
  let d := rowI c.2
  (⟨if d.2.ok then (txtI a.1).getD [] else [], b.1, c.1, d.1⟩, ⟨d.2.s, d.2.ok && (txtI a.1).isSome⟩)
def goI : Nat → List Chg → Rd → List Chg × Rd
  | 0, out, p => (out, p)
  | m + 1, out, p => if p.ok then goI m (out ++ [(itI p).1]) (itI p).2 else (out, p)
def takeI (s : Bs) : Option (List Chg) :=
  let c := cntI ⟨s, true⟩
  let g := goI c.1 [] c.2
  if g.2.ok = true ∧ g.2.s = [] ∧ mayL g.1 = true then some g.1 else none

theorem takeRow_short {s : Bs} {l : List Val} (h : takeRow s = some l) : s.length ≤ 4000 := by
  unfold takeRow at h
  split at h
  · cases h
  · omega
theorem rowI_bad {p : Rd} (h : p.ok = false) : (rowI p).2.ok = false := by simp [rowI, rowJ, cntI, h]
theorem rowI_some {s : Bs} {l : List Val} {r : Bs} (h : partN s = some (l, r)) : rowI ⟨s, true⟩ = (l, ⟨r, true⟩) := by
  unfold partN at h
  split at h
  · cases h
  · rename_i h0
    split at h
    · cases h
    · rename_i h1
      split at h
      · cases h
      · rename_i q hq
        injection h with h; injection h with e1 e2; subst e1; subst e2
        have hlen := takeRow_short hq
        rw [List.length_take] at hlen
        have h4 : (takeN s).1 ≤ 4000 := by omega
        have h0' : (takeN s).2.2 = 0 := by simpa using h0
        have h1' : (takeN s).1 ≤ s.length - (takeN s).2.1 := by rw [List.length_drop] at h1; omega
        simp only [rowI, rowJ, cntI, if_true, hq, h0', h4, h1', List.length_drop, decide_true, Bool.and_true, Option.getD_some, Option.isSome_some]
theorem rowI_none {s : Bs} (h : partN s = none) : (rowI ⟨s, true⟩).2.ok = false := by
  unfold partN at h
  simp only [rowI, rowJ, cntI]
  split at h
  · rename_i h0; simp [h0]
  · split at h
    · rename_i h1
      by_cases h4 : (takeN s).1 ≤ 4000
      · rw [if_pos h4]
        have : ¬ (takeN s).1 ≤ (s.drop (takeN s).2.1).length := by omega
        rw [decide_eq_false this]; simp
      · simp [h4]
    · split at h
      · rename_i hq
        by_cases h4 : (takeN s).1 ≤ 4000
        · rw [if_pos h4, hq]; simp
        · simp [h4]
      · cases h
theorem itI_some {s : Bs} {x : Chg} {r : Bs} (h : chgN s = some (x, r)) : itI ⟨s, true⟩ = (x, ⟨r, true⟩) := by
  unfold chgN at h
  split at h
  · cases h
  · rename_i t s1 h1
    split at h
    · cases h
    · rename_i k s2 h2
      split at h
      · cases h
      · rename_i o s3 h3
        split at h
        · cases h
        · rename_i n s4 h4
          split at h
          · rename_i v
            split at h
            · rename_i hv
              injection h with h; injection h with e1 e2; subst e1; subst e2
              simp [itI, rowI_some h1, rowI_some h2, rowI_some h3, rowI_some h4, txtI, hv]
            · cases h
          · cases h
theorem itI_none {s : Bs} (h : chgN s = none) : (itI ⟨s, true⟩).2.ok = false := by
  unfold chgN at h
  simp only [itI]
  split at h
  · rename_i h1
    have g1 := rowI_none h1
    have g2 := rowI_bad g1
    have g3 := rowI_bad g2
    rw [rowI_bad g3]; rfl
  · rename_i t s1 h1
    rw [rowI_some h1]
    split at h
    · rename_i h2
      have g2 := rowI_none h2
      have g3 := rowI_bad g2
      simp only
      rw [rowI_bad g3]; rfl
    · rename_i k s2 h2
      simp only [rowI_some h2]
      split at h
      · rename_i h3
        rw [rowI_bad (rowI_none h3)]; rfl
      · rename_i o s3 h3
        simp only [rowI_some h3]
        split at h
        · rename_i h4
          rw [rowI_none h4]; rfl
        · rename_i n s4 h4
          simp only [rowI_some h4, Bool.true_and]
          split at h
          · rename_i v
            split at h
            · cases h
            · rename_i hv; simp [txtI, hv]
          · rename_i hne
            match t, hne with
            | [], _ => rfl
            | [v], hne => exact absurd rfl (hne v)
            | _ :: _ :: _, _ => rfl
theorem goI_bad : ∀ (m : Nat) {p : Rd} (out : List Chg), p.ok = false → (goI m out p).2.ok = false
  | 0, _, _, h => h
  | m + 1, _, _, h => by simp only [goI]; rw [if_neg (by simp [h])]; exact h
theorem goI_some : ∀ (m : Nat) {s : Bs} {l : List Chg} {r : Bs} (out : List Chg), chgsN m s = some (l, r) → goI m out ⟨s, true⟩ = (out ++ l, ⟨r, true⟩) ∧ l.length = m
  | 0, s, l, r, out, h => by simp only [chgsN, Option.some.injEq, Prod.mk.injEq] at h; obtain ⟨rfl, rfl⟩ := h; simp [goI]
  | m + 1, s, l, r, out, h => by
    simp only [chgsN] at h
    split at h
    · cases h
    · rename_i x r1 hx
      cases hq : chgsN m r1 with
      | none => rw [hq] at h; cases h
      | some q =>
        rw [hq] at h
        simp only [Option.map_some, Option.some.injEq, Prod.mk.injEq] at h
        obtain ⟨rfl, rfl⟩ := h
        obtain ⟨g1, g2⟩ := goI_some m (s := r1) (l := q.1) (r := q.2) (out ++ [x]) hq
        simp only [goI, if_true, itI_some hx]
        rw [g1]
        simp [g2]
theorem goI_none : ∀ (m : Nat) {s : Bs} (out : List Chg), chgsN m s = none → (goI m out ⟨s, true⟩).2.ok = false
  | 0, s, out, h => by simp [chgsN] at h
  | m + 1, s, out, h => by
    simp only [chgsN] at h
    simp only [goI, if_true]
    split at h
    · rename_i hx
      exact goI_bad m _ (itI_none hx)
    · rename_i x r1 hx
      rw [itI_some hx]
      cases hq : chgsN m r1 with
      | none => exact goI_none m _ hq
      | some q => rw [hq] at h; cases h
theorem takeC_bad {s : Bs} (h : (takeN s).2.2 ≠ 0 ∨ (takeN s).1 > 1000) : takeC s = none := if_pos h
theorem takeC_none {s : Bs} (h : ¬ ((takeN s).2.2 ≠ 0 ∨ (takeN s).1 > 1000)) (hq : chgsN (takeN s).1 (s.drop (takeN s).2.1) = none) : takeC s = none := by
  unfold takeC; rw [if_neg h, hq]
theorem takeC_some {s : Bs} {l : List Chg} {r : Bs} (h : ¬ ((takeN s).2.2 ≠ 0 ∨ (takeN s).1 > 1000)) (hq : chgsN (takeN s).1 (s.drop (takeN s).2.1) = some (l, r)) : takeC s = if r = [] ∧ mayL l = true then some l else none := by
  unfold takeC; rw [if_neg h, hq]
theorem takeI_bad {s : Bs} (h : (goI (cntI ⟨s, true⟩).1 [] (cntI ⟨s, true⟩).2).2.ok = false) : takeI s = none := if_neg (by rw [h]; simp)
theorem takeI_eq (s : Bs) : takeI s = takeC s := by
  by_cases h0 : (takeN s).2.2 = 0
  · by_cases h4 : (takeN s).1 ≤ 4000
    · have hc : cntI ⟨s, true⟩ = ((takeN s).1, ⟨s.drop (takeN s).2.1, true⟩) := by simp [cntI, h0, h4]
      cases hq : chgsN (takeN s).1 (s.drop (takeN s).2.1) with
      | none =>
        rw [takeI_bad (by rw [hc]; exact goI_none _ [] hq)]
        by_cases h1 : (takeN s).1 > 1000
        · rw [takeC_bad (.inr h1)]
        · rw [takeC_none (by rintro (h | h); exact h h0; exact h1 h) hq]
      | some q =>
        obtain ⟨l, r⟩ := q
        obtain ⟨g1, g2⟩ := goI_some _ [] hq
        have hI : takeI s = if r = [] ∧ mayL l = true then some l else none := by
          unfold takeI
          simp only [hc, g1, List.nil_append, true_and]
        rw [hI]
        by_cases h1 : (takeN s).1 > 1000
        · rw [takeC_bad (.inr h1), if_neg]
          rintro ⟨_, hm⟩
          simp only [mayL, Bool.and_eq_true, decide_eq_true_eq] at hm
          omega
        · rw [takeC_some (by rintro (h | h); exact h h0; exact h1 h) hq]
    · rw [takeC_bad (.inr (by omega)), takeI_bad (goI_bad _ [] (by simp [cntI, h4]))]
  · rw [takeC_bad (.inl h0), takeI_bad (goI_bad _ [] (by simp [cntI, h0]))]

theorem takeRow_wf {s : Bs} {l : List Val} (h : takeRow s = some l) : (∀ v ∈ l, v.wf) ∧ l.length ≤ 16 := by
  obtain ⟨h1, h2⟩ := takeRow_spec h
  exact ⟨h2, (chkRow_zero (putRow_ok (by rw [h1])).1).1⟩
theorem rowI_wf (p : Rd) : (∀ v ∈ (rowI p).1, v.wf) ∧ (rowI p).1.length ≤ 16 := by
  simp only [rowI, rowJ]
  cases h : takeRow ((cntI p).2.s.take (cntI p).1) with
  | none => exact ⟨by simp, by simp⟩
  | some l => exact takeRow_wf h
end Go.Proofs.Ytljfolepmkcjlaa.Plain

/-
  The closures of change.Take: a number, a row.
-/
namespace Go.Proofs.Ytljfolepmkcjlaa
open Go.RowKit Plain Am IntWalk
set_option maxRecDepth 100000
set_option linter.unusedVariables false
set_option linter.unusedSimpArgs false

/-! The readings' closures: what they answer. -/
def cntE : Ent := fun a o => match a, o with
  | [.ptr 0 0, .ptr 1 0], [.box A [.d (.str s)], .box B [.d (.bool ok)]] =>
    some (.d (.int .i64 ((cntI ⟨s, ok⟩).1 : Nat)), [.box A [.d (.str (cntI ⟨s, ok⟩).2.s)], .box B [.d (.bool (cntI ⟨s, ok⟩).2.ok)]], [Nat.beq A 9, Nat.beq B 4, decide (s.length ≤ 2000000)])
  | _, _ => none
def rowE : Ent := fun a o => match a, o with
  | [.ptr 0 0, .ptr 1 0, .ptr 2 0], [.box F [.clo (.func f) [] [.ptr 1 0, .ptr 2 0]], .box A [.d (.str s)], .box B [.d (.bool ok)]] =>
    some (.d (rD (rowI ⟨s, ok⟩).1), [.box F [.clo (.func f) [] [.ptr 1 0, .ptr 2 0]], .box A [.d (.str (rowI ⟨s, ok⟩).2.s)], .box B [.d (.bool (rowI ⟨s, ok⟩).2.ok)]], [Nat.beq f 43, Nat.beq F 64, Nat.beq A 9, Nat.beq B 4, decide (s.length ≤ 2000000)])
  | _, _ => none
noncomputable abbrev cnC : Code := bodyOf Try.f43
noncomputable abbrev rwC : Code := bodyOf Try.f45
noncomputable abbrev tkC : Code := bodyOf Try.f21
def cnO (s : Bs) (ok : Bool) : List PObj := [.box 9 [.d (.str s)], .box 4 [.d (.bool ok)]]
def rwO (s : Bs) (ok : Bool) : List PObj := [.box 64 [.clo (.func 43) [] [.ptr 1 0, .ptr 2 0]], .box 9 [.d (.str s)], .box 4 [.d (.bool ok)]]
def tkS (s : Bs) (ok : Bool) (out : List DV) (n : Int) : ESt := { n := 66, m := 0, regs := T.mk [(1, .ptr 200 0), (4, .ptr 201 0), (6, .clo (.func 45) [] [.ptr 202 0, .ptr 200 0, .ptr 201 0]), (7, .own 203 4), (8, .d (.int .i64 n))], objs := T.mk [(200, .box 9 [.d (.str s)]), (201, .box 4 [.d (.bool ok)]), (202, .box 64 [.clo (.func 43) [] [.ptr 200 0, .ptr 201 0]]), (203, .arr 46 4 out)] }
theorem takeN_len (s : Bs) : (takeN s).2.1 ≤ s.length := by
  by_cases h : (takeN s).2.2 = 0
  · exact (takeN_ok s h).2.2.2.1
  · rw [(takeN_bad s h).2]; exact Nat.zero_le _
noncomputable def tn : List (Nat × Ent) := [(44, e1 numG), (46, e1 takeG)]
theorem tn_ok : EntsOk Try.prog tn := .cons num_ent (.cons take_ent .nil)
theorem cutLd (S : Bs) (p : Nat) : cutL S (some (p : Int)) none = S.drop p := by simp [cutL]
theorem ov_cut {s : Bs} {k : Nat} : RVle (.d (.str (cutL s (some (Nat.cast (R := Int) k)) none))) (.d (.str (s.drop k))) := .of_eq (by simp [cutL])
theorem ov_cnt (s : Bs) (ok : Bool) : RVle (.d (.int .i64 (IntKind.i64.wrap (if (4000 : Int) < (Nat.cast (R := Int) (takeN s).1) then 4000 else (Nat.cast (R := Int) (takeN s).1))))) (.d (.int .i64 (Nat.cast (R := Int) (cntI ⟨s, ok⟩).1))) := .of_eq (by
  refine congrArg (fun z : Int => RV.d (.int .i64 z)) ?_
  simp only [cntI]
  split <;> split <;> first | omega | (rw [i64_in _ (by omega)]; rfl) | (rw [i64_in _ (by omega)]))
theorem cnt_c (s : Bs) (ok : Bool) (hs : s.length ≤ 2000000) : C Try.prog 43 [.ptr 0 0, .ptr 1 0] (cnO s ok) (fun r o => r = .d (.int .i64 ((cntI ⟨s, ok⟩).1 : Nat)) ∧ o = cnO (cntI ⟨s, ok⟩).2.s (cntI ⟨s, ok⟩).2.ok) := by
  have ok' := cfT_ok tn_ok
  have hb := takeN_len s
  refine C_of_run (fn := Try.f43) (body := cnC) true (by kernel_rfl) (by kernel_rfl) (by kernel_rfl) ?_
  cases ok with
  | false =>
    have ok := ok'
    exact WK.fin ok 1000 0 [(23, RV.d (DV.str (s.drop (takeN s).2.1))), (26, RV.d (DV.int Go.IntKind.i64 (Nat.cast (R := Int) ((cntI ⟨s, false⟩).1))))] [decide (List.length s ≤ 2000000), decide (0 ≤ (Nat.cast (R := Int) (Plain.takeN s).snd.fst) ∧ (Nat.cast (R := Int) (Plain.takeN s).snd.fst) ≤ (Nat.cast (R := Int) (List.length s)))] [(RV.d (DV.str (cutL s (Option.some (Nat.cast (R := Int) (Plain.takeN s).snd.1)) Option.none)), RV.d (DV.str (s.drop (takeN s).2.1))), (RV.d (DV.int Go.IntKind.i64 (Go.IntKind.i64.wrap (if 4000 < (Nat.cast (R := Int) (Plain.takeN s).fst) then 4000 else (Nat.cast (R := Int) (Plain.takeN s).1)))), RV.d (DV.int Go.IntKind.i64 (Nat.cast (R := Int) ((cntI ⟨s, false⟩).1))))] rfl (by kernel_rfl : runEnd (cfT tn) true _ 1000 0 _ _ (ini 27 [.ptr 0 0, .ptr 1 0] (cnO s false)) = some (RV.d (DV.int Go.IntKind.i64 (Nat.cast (R := Int) ((cntI ⟨s, false⟩).1))), [PObj.box 9 [RV.d (DV.str (s.drop (takeN s).2.1))], PObj.box 4 [RV.d (DV.bool false)]], _, _)) (by refine ⟨?_, ?_, trivial⟩ <;> (exact decide_eq_true (by omega))) (by refine ⟨?_, ?_, trivial⟩ <;> (first | exact ov_cut | exact ov_cnt s false)) ⟨rfl, by simp [cntI, cnO]⟩
  | true =>
    have ok := ok'
    by_cases he : (takeN s).2.2 = 0
    · skip
      exact WK.fin ok 1000 0 [(23, RV.d (DV.str (s.drop (takeN s).2.1))), (26, RV.d (DV.int Go.IntKind.i64 (Nat.cast (R := Int) ((cntI ⟨s, true⟩).1)))), (15, RV.d (DV.bool true)), (19, RV.d (DV.bool (decide ((takeN s).1 ≤ 4000))))] [decide (List.length s ≤ 2000000), decide (0 ≤ (Nat.cast (R := Int) (Plain.takeN s).snd.fst) ∧ (Nat.cast (R := Int) (Plain.takeN s).snd.fst) ≤ (Nat.cast (R := Int) (List.length s)))] [(RV.d (DV.bool ((Nat.cast (R := Int) (Plain.takeN s).snd.2) == 0)), RV.d (DV.bool true)), (RV.d (DV.bool (decide ((Nat.cast (R := Int) (Plain.takeN s).fst) ≤ 4000))), RV.d (DV.bool (decide ((takeN s).1 ≤ 4000)))), (RV.d (DV.str (cutL s (Option.some (Nat.cast (R := Int) (Plain.takeN s).snd.1)) Option.none)), RV.d (DV.str (s.drop (takeN s).2.1))), (RV.d (DV.int Go.IntKind.i64 (Go.IntKind.i64.wrap (if 4000 < (Nat.cast (R := Int) (Plain.takeN s).fst) then 4000 else (Nat.cast (R := Int) (Plain.takeN s).1)))), RV.d (DV.int Go.IntKind.i64 (Nat.cast (R := Int) ((cntI ⟨s, true⟩).1))))] rfl (by kernel_rfl : runEnd (cfT tn) true _ 1000 0 _ _ (ini 27 [.ptr 0 0, .ptr 1 0] (cnO s true)) = some (RV.d (DV.int Go.IntKind.i64 (Nat.cast (R := Int) ((cntI ⟨s, true⟩).1))), [PObj.box 9 [RV.d (DV.str (s.drop (takeN s).2.1))], PObj.box 4 [RV.d (DV.bool (decide ((takeN s).1 ≤ 4000)))]], _, _)) (by refine ⟨?_, ?_, trivial⟩ <;> (exact decide_eq_true (by omega))) (by refine ⟨?_, ?_, ?_, ?_, trivial⟩ <;> (first | exact ov_cut | exact ov_cnt s true | exact le_bool (by rw [he]; rfl) | (refine le_bool ?_; apply Bool.eq_iff_iff.2; simp only [decide_eq_true_eq]; omega))) ⟨rfl, by simp [cntI, cnO, he]⟩
    · skip
      exact WK.fin ok 1000 0 [(23, RV.d (DV.str (s.drop (takeN s).2.1))), (26, RV.d (DV.int Go.IntKind.i64 (Nat.cast (R := Int) ((cntI ⟨s, true⟩).1)))), (15, RV.d (DV.bool false))] [decide (List.length s ≤ 2000000), decide (0 ≤ (Nat.cast (R := Int) (Plain.takeN s).snd.fst) ∧ (Nat.cast (R := Int) (Plain.takeN s).snd.fst) ≤ (Nat.cast (R := Int) (List.length s)))] [(RV.d (DV.bool ((Nat.cast (R := Int) (Plain.takeN s).snd.2) == 0)), RV.d (DV.bool false)), (RV.d (DV.str (cutL s (Option.some (Nat.cast (R := Int) (Plain.takeN s).snd.1)) Option.none)), RV.d (DV.str (s.drop (takeN s).2.1))), (RV.d (DV.int Go.IntKind.i64 (Go.IntKind.i64.wrap (if 4000 < (Nat.cast (R := Int) (Plain.takeN s).fst) then 4000 else (Nat.cast (R := Int) (Plain.takeN s).1)))), RV.d (DV.int Go.IntKind.i64 (Nat.cast (R := Int) ((cntI ⟨s, true⟩).1))))] rfl (by kernel_rfl : runEnd (cfT tn) true _ 1000 0 _ _ (ini 27 [.ptr 0 0, .ptr 1 0] (cnO s true)) = some (RV.d (DV.int Go.IntKind.i64 (Nat.cast (R := Int) ((cntI ⟨s, true⟩).1))), [PObj.box 9 [RV.d (DV.str (s.drop (takeN s).2.1))], PObj.box 4 [RV.d (DV.bool false)]], _, _)) (by refine ⟨?_, ?_, trivial⟩ <;> (exact decide_eq_true (by omega))) (by refine ⟨?_, ?_, ?_, trivial⟩ <;> (first | exact ov_cut | exact ov_cnt s true | exact le_bool (beq_eq_false_iff_ne.2 (by omega)))) ⟨rfl, by simp [cntI, cnO, he]⟩
theorem cnt_ent : EntOk Try.prog 43 cntE := by
  intro a o r o' c hg hc
  unfold cntE at hg
  split at hg
  · rename_i A s B ok
    simp only [Option.some.injEq, Prod.mk.injEq] at hg
    obtain ⟨rfl, rfl, rfl⟩ := hg
    have h1 := nbE (hc (Nat.beq A 9) (by simp))
    have h2 := nbE (hc (Nat.beq B 4) (by simp))
    have h3 := of_decide_eq_true (hc (decide (s.length ≤ 2000000)) (by simp))
    subst h1 h2
    exact cnt_c s ok h3
  · cases hg
noncomputable def tn2 : List (Nat × Ent) := (43, cntE) :: tn
theorem tn2_ok : EntsOk Try.prog tn2 := .cons cnt_ent tn_ok
theorem cntI_len (p : Rd) : (cntI p).2.s.length ≤ p.s.length := by simp only [cntI, List.length_drop]; omega
theorem rowI_len (p : Rd) : (rowI p).2.s.length ≤ p.s.length := by
  have := cntI_len p
  simp only [rowI, rowJ, List.length_drop]; omega
theorem cutL_take (s : Bs) (k : Nat) : cutL s none (some (k : Int)) = s.take k := by simp [cutL]
theorem row_c2 (s : Bs) (ok : Bool) (hs : s.length ≤ 2000000) : C Try.prog 45 [.ptr 0 0, .ptr 1 0, .ptr 2 0] (rwO s ok) (fun r o => r = .d (rD (rowI ⟨s, ok⟩).1) ∧ o = rwO (rowI ⟨s, ok⟩).2.s (rowI ⟨s, ok⟩).2.ok) := by
  have hok := cfT_ok tn2_ok
  have hb := cntI_len ⟨s, ok⟩
  simp only at hb
  refine C_of_run (fn := Try.f45) (body := rwC) true (by kernel_rfl) (by kernel_rfl) (by kernel_rfl) ?_
  by_cases hl : (cntI ⟨s, ok⟩).2.s.length < (cntI ⟨s, ok⟩).1
  · have e1 : (cntI ⟨s, ok⟩).2.s.take (cntI ⟨s, ok⟩).1 = (cntI ⟨s, ok⟩).2.s := List.take_of_length_le (by omega)
    have e2 : (cntI ⟨s, ok⟩).2.s.drop (cntI ⟨s, ok⟩).1 = [] := List.drop_eq_nil_of_le (by omega)
    have e3 : decide ((cntI ⟨s, ok⟩).1 ≤ (cntI ⟨s, ok⟩).2.s.length) = false := decide_eq_false (by omega)
    have hc4 : (cntI ⟨s, ok⟩).1 ≤ 4000 := by unfold cntI; simp only; split <;> omega
    obtain ⟨x, hx⟩ : ∃ x, (cntI ⟨s, ok⟩).2.s = x := ⟨_, rfl⟩
    rw [hx] at e1 e2 e3
    exact WK.fin hok 1000 0 [(12, RV.d (DV.bool true)), (18, RV.d (DV.str x)), (29, RV.d (DV.str []))] [true, true, decide (List.length s ≤ 2000000), decide (0 ≤ (Nat.cast (R := Int) (List.length (Plain.cntI { s := s, ok := ok }).snd.s)) ∧ (Nat.cast (R := Int) (List.length (Plain.cntI { s := s, ok := ok }).snd.s)) ≤ (Nat.cast (R := Int) (List.length (Plain.cntI { s := s, ok := ok }).snd.s))), decide (List.length x ≤ 1048576), decide (0 ≤ (Nat.cast (R := Int) (List.length (Plain.cntI { s := s, ok := ok }).snd.s)) ∧ (Nat.cast (R := Int) (List.length (Plain.cntI { s := s, ok := ok }).snd.s)) ≤ (Nat.cast (R := Int) (List.length (Plain.cntI { s := s, ok := ok }).snd.s)))] [(RV.d (DV.bool (decide ((Nat.cast (R := Int) (List.length (Plain.cntI { s := s, ok := ok }).snd.s)) < (Nat.cast (R := Int) (Plain.cntI { s := s, ok := ok }).fst)))), RV.d (DV.bool true)), (RV.d (DV.str (cutL (Plain.cntI { s := s, ok := ok }).snd.1 Option.none (Option.some (Nat.cast (R := Int) (List.length (Plain.cntI { s := s, ok := ok }).snd.1))))), RV.d (DV.str x)), (RV.d (DV.str (cutL (Plain.cntI { s := s, ok := ok }).snd.1 (Option.some (Nat.cast (R := Int) (List.length (Plain.cntI { s := s, ok := ok }).snd.1))) Option.none)), RV.d (DV.str []))] rfl (by kernel_rfl : runEnd (cfT tn2) true _ 1000 0 _ _ (ini 31 [.ptr 0 0, .ptr 1 0, .ptr 2 0] (rwO s ok)) = some (RV.d (DV.lst 3 (List.map vD (rowD x)) false), [PObj.box 64 [RV.clo (Go.Fn.func 43) [] [RV.ptr 1 0, RV.ptr 2 0]], PObj.box 9 [RV.d (DV.str [])], PObj.box 4 [RV.d (DV.bool false)]], _, _)) (by refine ⟨?_, ?_, ?_, ?_, ?_, ?_, trivial⟩ <;> (first | rfl | exact decide_eq_true (by rw [← hx]; omega) | exact decide_eq_true (by omega))) (by refine ⟨?_, ?_, ?_, trivial⟩ <;> (first | exact le_bool (decide_eq_true (by omega)) | (refine .of_eq ?_; rw [cutL_take, ← hx, List.take_of_length_le (Nat.le_refl _)]) | (refine .of_eq ?_; rw [cutLd, List.drop_eq_nil_of_le (Nat.le_refl _)]))) ⟨by simp only [rowI, rowJ, hx, e1, rowD], by simp only [rowI, rowJ, hx, e2, e3, Bool.and_false, Bool.false_and]; rfl⟩
  · have e3 : decide ((cntI ⟨s, ok⟩).1 ≤ (cntI ⟨s, ok⟩).2.s.length) = true := decide_eq_true (by omega)
    obtain ⟨x, hx⟩ : ∃ x, (cntI ⟨s, ok⟩).2.s.take (cntI ⟨s, ok⟩).1 = x := ⟨_, rfl⟩
    have hxl : x.length ≤ 1048576 := by
      have : (cntI ⟨s, ok⟩).1 ≤ 4000 := by unfold cntI; simp only; split <;> omega
      rw [← hx, List.length_take]; omega
    cases hk : (cntI ⟨s, ok⟩).2.ok with
    | true =>
      obtain ⟨b, hbb⟩ : ∃ b, (takeRow x).isSome = b := ⟨_, rfl⟩
      have hb7 : ((if takeRow x = none then (7 : Int) else 0) == 0) = b := by
        rw [← hbb]; cases takeRow x <;> rfl
      exact WK.fin hok 1000 0 [(12, RV.d (DV.bool false)), (22, RV.d (DV.bool true)), (25, RV.d (DV.bool b)), (18, RV.d (DV.str x)), (29, RV.d (DV.str (List.drop (Plain.cntI { s := s, ok := ok }).1 (Plain.cntI { s := s, ok := ok }).snd.1)))] [true, true, decide (List.length s ≤ 2000000), decide (0 ≤ (Nat.cast (R := Int) (Plain.cntI { s := s, ok := ok }).fst) ∧ (Nat.cast (R := Int) (Plain.cntI { s := s, ok := ok }).fst) ≤ (Nat.cast (R := Int) (List.length (Plain.cntI { s := s, ok := ok }).snd.s))), decide (List.length x ≤ 1048576), decide (0 ≤ (Nat.cast (R := Int) (Plain.cntI { s := s, ok := ok }).fst) ∧ (Nat.cast (R := Int) (Plain.cntI { s := s, ok := ok }).fst) ≤ (Nat.cast (R := Int) (List.length (Plain.cntI { s := s, ok := ok }).snd.s)))] [(RV.d (DV.bool (decide ((Nat.cast (R := Int) (List.length (Plain.cntI { s := s, ok := ok }).snd.s)) < (Nat.cast (R := Int) (Plain.cntI { s := s, ok := ok }).fst)))), RV.d (DV.bool false)), (RV.d (DV.str (cutL (Plain.cntI { s := s, ok := ok }).snd.1 Option.none (Option.some (Nat.cast (R := Int) (Plain.cntI { s := s, ok := ok }).1)))), RV.d (DV.str x)), (RV.d (DV.bool (Plain.cntI { s := s, ok := ok }).snd.2), RV.d (DV.bool true)), (RV.d (DV.bool ((if Plain.takeRow x = Option.none then (7 : Int) else 0) == 0)), RV.d (DV.bool b)), (RV.d (DV.str (cutL (Plain.cntI { s := s, ok := ok }).snd.1 (Option.some (Nat.cast (R := Int) (Plain.cntI { s := s, ok := ok }).1)) Option.none)), RV.d (DV.str (List.drop (Plain.cntI { s := s, ok := ok }).1 (Plain.cntI { s := s, ok := ok }).snd.1)))] rfl (by kernel_rfl : runEnd (cfT tn2) true _ 1000 0 _ _ (ini 31 [.ptr 0 0, .ptr 1 0, .ptr 2 0] (rwO s ok)) = some (RV.d (DV.lst 3 (List.map vD (rowD x)) false), [PObj.box 64 [RV.clo (Go.Fn.func 43) [] [RV.ptr 1 0, RV.ptr 2 0]], PObj.box 9 [RV.d (DV.str (List.drop (Plain.cntI { s := s, ok := ok }).1 (Plain.cntI { s := s, ok := ok }).snd.1))], PObj.box 4 [RV.d (DV.bool b)]], _, _)) (by refine ⟨?_, ?_, ?_, ?_, ?_, ?_, trivial⟩ <;> (first | rfl | exact decide_eq_true (by omega))) (by refine ⟨?_, ?_, ?_, ?_, ?_, trivial⟩ <;> (first | exact le_bool (decide_eq_false (by omega)) | exact le_bool hk | exact le_bool hb7 | exact ov_cut | (refine .of_eq ?_; rw [cutL_take, hx]))) ⟨by simp only [rowI, rowJ, rowD, hx], by simp only [rowI, rowJ, e3, hk, hx, hbb, Bool.true_and]; rfl⟩
    | false =>
      exact WK.fin hok 1000 0 [(12, RV.d (DV.bool false)), (22, RV.d (DV.bool false)), (18, RV.d (DV.str x)), (29, RV.d (DV.str (List.drop (Plain.cntI { s := s, ok := ok }).1 (Plain.cntI { s := s, ok := ok }).snd.1)))] [true, true, decide (List.length s ≤ 2000000), decide (0 ≤ (Nat.cast (R := Int) (Plain.cntI { s := s, ok := ok }).fst) ∧ (Nat.cast (R := Int) (Plain.cntI { s := s, ok := ok }).fst) ≤ (Nat.cast (R := Int) (List.length (Plain.cntI { s := s, ok := ok }).snd.s))), decide (List.length x ≤ 1048576), decide (0 ≤ (Nat.cast (R := Int) (Plain.cntI { s := s, ok := ok }).fst) ∧ (Nat.cast (R := Int) (Plain.cntI { s := s, ok := ok }).fst) ≤ (Nat.cast (R := Int) (List.length (Plain.cntI { s := s, ok := ok }).snd.s)))] [(RV.d (DV.bool (decide ((Nat.cast (R := Int) (List.length (Plain.cntI { s := s, ok := ok }).snd.s)) < (Nat.cast (R := Int) (Plain.cntI { s := s, ok := ok }).fst)))), RV.d (DV.bool false)), (RV.d (DV.str (cutL (Plain.cntI { s := s, ok := ok }).snd.1 Option.none (Option.some (Nat.cast (R := Int) (Plain.cntI { s := s, ok := ok }).1)))), RV.d (DV.str x)), (RV.d (DV.bool (Plain.cntI { s := s, ok := ok }).snd.2), RV.d (DV.bool false)), (RV.d (DV.str (cutL (Plain.cntI { s := s, ok := ok }).snd.1 (Option.some (Nat.cast (R := Int) (Plain.cntI { s := s, ok := ok }).1)) Option.none)), RV.d (DV.str (List.drop (Plain.cntI { s := s, ok := ok }).1 (Plain.cntI { s := s, ok := ok }).snd.1)))] rfl (by kernel_rfl : runEnd (cfT tn2) true _ 1000 0 _ _ (ini 31 [.ptr 0 0, .ptr 1 0, .ptr 2 0] (rwO s ok)) = some (RV.d (DV.lst 3 (List.map vD (rowD x)) false), [PObj.box 64 [RV.clo (Go.Fn.func 43) [] [RV.ptr 1 0, RV.ptr 2 0]], PObj.box 9 [RV.d (DV.str (List.drop (Plain.cntI { s := s, ok := ok }).1 (Plain.cntI { s := s, ok := ok }).snd.1))], PObj.box 4 [RV.d (DV.bool false)]], _, _)) (by refine ⟨?_, ?_, ?_, ?_, ?_, ?_, trivial⟩ <;> (first | rfl | exact decide_eq_true (by omega))) (by refine ⟨?_, ?_, ?_, ?_, trivial⟩ <;> (first | exact le_bool (decide_eq_false (by omega)) | exact le_bool hk | exact ov_cut | (refine .of_eq ?_; rw [cutL_take, hx]))) ⟨by simp only [rowI, rowJ, rowD, hx], by simp only [rowI, rowJ, hk, Bool.false_and]; rfl⟩
theorem row_ent2 : EntOk Try.prog 45 rowE := by
  intro a o r o' c hg hc
  unfold rowE at hg
  split at hg
  · rename_i F f A s B ok
    simp only [Option.some.injEq, Prod.mk.injEq] at hg
    obtain ⟨rfl, rfl, rfl⟩ := hg
    have h0 := nbE (hc (Nat.beq f 43) (by simp))
    have hF := nbE (hc (Nat.beq F 64) (by simp))
    have h1 := nbE (hc (Nat.beq A 9) (by simp))
    have h2 := nbE (hc (Nat.beq B 4) (by simp))
    have h3 := of_decide_eq_true (hc (decide (s.length ≤ 2000000)) (by simp))
    subst h0 hF h1 h2
    exact row_c2 s ok h3
  · cases hg
end Go.Proofs.Ytljfolepmkcjlaa
