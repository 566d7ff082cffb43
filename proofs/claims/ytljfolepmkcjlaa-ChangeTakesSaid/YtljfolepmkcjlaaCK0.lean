/-
  The record layer's contracts for the abstract machine, out of the walks.
-/
import Derived.Test.YtljfolepmkcjlaaWSame
import Derived.Test.YtljfolepmkcjlaaCP9
import Derived.Test.YtljfolepmkcjlaaAmC
namespace Go.Proofs.Ytljfolepmkcjlaa
open Go.RowKit Plain Am

def vD (v : Val) : DV := .agg [.int .u8 v.k, .int .i64 v.n, .str v.s]
def toVal : DV → Val
  | .agg [.int _ k, .int _ n, .str s] => ⟨k, n, s⟩
  | _ => ⟨0, 0, []⟩
def wfB (v : Val) : Bool := decide (0 ≤ v.k) && decide (v.k ≤ 255) && decide (-9223372036854775808 ≤ v.n) && decide (v.n ≤ 9223372036854775807)
def isVal : DV → Bool
  | .agg [.int .u8 k, .int .i64 n, .str s] => wfB ⟨k, n, s⟩
  | _ => false
def toRow (els : List DV) : List Val := els.map toVal
def okRow (els : List DV) : Bool := decide (els.length ≤ 65536) && els.all isVal

theorem wfB_iff (v : Val) : wfB v = true ↔ v.wf := by simp [wfB, Val.wf, and_assoc]

theorem isVal_spec {x : DV} (h : isVal x = true) : x = vD (toVal x) ∧ (toVal x).wf := by
  unfold isVal at h
  split at h
  · exact ⟨rfl, (wfB_iff _).1 h⟩
  · cases h
theorem toVal_vD (v : Val) : toVal (vD v) = v := rfl
theorem toRow_map (l : List Val) : toRow (l.map vD) = l := by
  induction l with
  | nil => rfl
  | cons v r ih =>
    simp only [toRow, List.map_cons, toVal_vD, List.cons.injEq, true_and]
    exact ih
theorem okRow_map {l : List Val} (hl : l.length ≤ 65536) (hw : ∀ v ∈ l, v.wf) : okRow (l.map vD) = true := by
  simp only [okRow, Bool.and_eq_true, decide_eq_true_eq, List.length_map, List.all_eq_true, List.mem_map]
  refine ⟨hl, ?_⟩
  rintro x ⟨v, hv, rfl⟩
  exact (wfB_iff v).2 (hw v hv)
theorem map_toRow : ∀ {els : List DV}, (∀ x ∈ els, isVal x = true) → els = (toRow els).map vD ∧ ∀ v ∈ toRow els, v.wf
  | [], _ => by simp [toRow]
  | x :: r, h => by
    obtain ⟨g1, g2⟩ := map_toRow (els := r) (fun y hy => h y (by simp [hy]))
    obtain ⟨e1, e2⟩ := isVal_spec (h x (by simp))
    refine ⟨?_, ?_⟩
    · show x :: r = vD (toVal x) :: (toRow r).map vD
      rw [← e1, ← g1]
    · intro v hv
      have : v ∈ toVal x :: toRow r := hv
      rcases List.mem_cons.1 this with rfl | hv
      · exact e2
      · exact g2 v hv
theorem okRow_spec {els : List DV} (h : okRow els = true) : els = (toRow els).map vD ∧ (∀ v ∈ toRow els, v.wf) ∧ (toRow els).length ≤ 65536 := by
  simp only [okRow, Bool.and_eq_true, decide_eq_true_eq, List.all_eq_true] at h
  obtain ⟨g1, g2⟩ := map_toRow h.2
  exact ⟨g1, g2, by simpa [toRow] using h.1⟩

theorem vD_cells (v : Val) : (vD v).cells = [.int .u8 v.k, .int .i64 v.n, .str v.s] := rfl

/-- A slice that reads as a row is one. -/
theorem row_of {κ : Kap} {w : World} {sz : Nat} {l : List Val} {full : Bool} {v : Value} (r : DR κ w.heap (.lst sz (l.map vD) full) v) : ∃ A c, v = .slice A l.length c ∧ Row w A l := by
  generalize he : l.map vD = els at r
  cases r with
  | lst0 hf =>
    have : l = [] := by simpa using he
    subst this
    exact ⟨_, _, rfl, Sl.nil w 3 _⟩
  | @lst _ _ _ b off cap c ty fz hκ hb hf hc hs hz hr =>
    subst he
    refine ⟨_, _, by rw [List.length_map], ⟨by rw [rowCells_length], fun h0 => ⟨b, off, rfl, fun j u hj => ?_⟩⟩⟩
    rw [cell_at hb]
    have hjl : j < l.length * 3 := by rw [← rowCells_length]; exact (List.getElem?_eq_some_iff.1 hj).1
    have hi : j / 3 < l.length := by omega
    have hx : (l.map vD)[j / 3]? = some (vD l[j / 3]) := by simp [hi]
    have hsz : sz = 3 := by
      have := (hz _ (List.mem_of_getElem? hx)).1
      simpa [vD_cells] using this.symm
    subst hsz
    obtain ⟨g0, g1, g2⟩ := rowCells_get l (j / 3) hi
    have hcs : off + j < c.size := by
      have : l.length ≤ cap := by simpa using hc
      omega
    have key : ∀ (t : Nat) (y : DV) (u' : Value), j = j / 3 * 3 + t → [DV.int .u8 l[j / 3].k, .int .i64 l[j / 3].n, .str l[j / 3].s][t]? = some y → (rowCells l)[j]? = some u' → y.one = some u' → c[off + j]? = some u := by
      intro t y u' hj2 hy hu hone
      rw [hj] at hu
      injection hu with hu
      subst hu
      have e : c[off + j]? = some c[off + j] := by simp [hcs]
      have := (hr (j / 3) _ t y c[off + j] hx (by rw [vD_cells]; exact hy) (by rw [show off + j / 3 * 3 + t = off + j by omega]; exact e)).one hone
      rw [e, this]
    have h3 : j = j / 3 * 3 + 0 ∨ j = j / 3 * 3 + 1 ∨ j = j / 3 * 3 + 2 := by omega
    rcases h3 with h3 | h3 | h3
    · exact key 0 _ _ h3 rfl ((congrArg (fun q => (rowCells l)[q]?) h3).trans g0) rfl
    · exact key 1 _ _ h3 rfl ((congrArg (fun q => (rowCells l)[q]?) h3).trans g1) rfl
    · exact key 2 _ _ h3 rfl ((congrArg (fun q => (rowCells l)[q]?) h3).trans g2) rfl

/-- A row as an argument: what a walk over every such row says. -/
theorem C_row {f : FuncId} {sz : Nat} {els : List DV} {full : Bool} {d : DV} {v : Value} (h0 : okRow els = true) (hd : d.flat = some v)
    (h : ∀ (A : Option Addr) (c : Nat) (w : World), Row w A (toRow els) → Calls Try.prog f #[.slice A (toRow els).length c] w fun e w' => e = .returned v ∧ Below w.heap.size w w') :
    C Try.prog f [.d (.lst sz els full)] [] (fun r o => r = .d d ∧ o = []) := by
  refine C_of_calls (args := [.lst sz els full]) fun κ w vs hk hl hr => ?_
  have hl1 : vs.size = 1 := by simpa using hl
  have e1 : vs[0]? = some vs[0] := by simp [show 0 < vs.size by omega]
  have r := hr 0 _ _ rfl e1
  rw [(okRow_spec h0).1] at r
  obtain ⟨A, c, hA, hR⟩ := row_of r
  have : vs = #[.slice A (toRow els).length c] := by
    apply Array.ext
    · simpa using hl
    · intro i hi hi2
      simp at hi2; subst hi2
      simpa using hA
  subst this
  refine (h A c w hR).mono ?_
  rintro e w' ⟨rfl, hB⟩
  exact ⟨v, κ, rfl, DR.of_flat hd, ⟨hB.size, hB.os, hB.output⟩, fun b hb => ⟨hB.block b hb, rfl⟩, fun b hb => Nat.lt_of_lt_of_le (hk b hb) hB.size⟩

def putD (l : List Val) : DV := .tup [.str (putRow l).1, .int .i64 (putRow l).2]
def gRow (k : List Val → DV) (c : List Val → Bool) : DV → Option (DV × List Bool)
  | .lst _ els _ => some (k (toRow els), [okRow els, c (toRow els)])
  | _ => none

theorem gRow_ok {f : FuncId} {k : List Val → DV} {c : List Val → Bool} (h : ∀ (l : List Val), l.length ≤ 65536 → (∀ v ∈ l, v.wf) → c l = true → ∃ v, (k l).flat = some v ∧
    ∀ (A : Option Addr) (c : Nat) (w : World), Row w A l → Calls Try.prog f #[.slice A l.length c] w fun e w' => e = .returned v ∧ Below w.heap.size w w') : EntOk Try.prog f (e1 (gRow k c)) := by
  refine e1_ok fun x y cs hg hc => ?_
  unfold gRow at hg
  split at hg
  · rename_i sz els full
    simp only [Option.some.injEq, Prod.mk.injEq] at hg
    obtain ⟨rfl, rfl⟩ := hg
    have h0 := hc _ (by simp : okRow els ∈ [okRow els, c (toRow els)])
    have h1 := hc _ (by simp : c (toRow els) ∈ [okRow els, c (toRow els)])
    obtain ⟨g1, g2, g3⟩ := okRow_spec h0
    obtain ⟨v, hv, hw⟩ := h _ g3 g2 h1
    exact C_row h0 hv hw
  · cases hg

theorem put_ent : EntOk Try.prog 55 (e1 (gRow putD fun _ => true)) :=
  gRow_ok fun l h1 h2 _ => ⟨_, rfl, fun A c w hr => put09_any A c l w hr h1 h2⟩
theorem rcheck_ent : EntOk Try.prog 81 (e1 (gRow (fun l => .int .i64 (chkRow l)) fun _ => true)) :=
  gRow_ok fun l h1 _ _ => ⟨_, rfl, fun A c w hr => rrow_any A c l w hr h1⟩
theorem rall_ent : EntOk Try.prog 82 (e1 (gRow (fun l => .str (allL l)) fun l => decide (l.length ≤ 16) && l.all fun v => chk v == 0)) :=
  gRow_ok fun l h1 h2 h3 => ⟨_, rfl, fun A c w hr => rall_any A c l w hr (by simp at h3; exact h3.1) (fun v hv => by simp at h3; exact h3.2 v hv) h2⟩

def sameG : DV → DV → Option (DV × List Bool)
  | .lst _ e1 _, .lst _ e2 _ => some (.bool (decide (toRow e1 = toRow e2)), [okRow e1, okRow e2])
  | _, _ => none
theorem same_ent : EntOk Try.prog 36 (e2 sameG) := by
  refine e2_ok fun x x2 y cs hg hc => ?_
  unfold sameG at hg
  split at hg
  · rename_i sz els full sz2 els2 full2
    simp only [Option.some.injEq, Prod.mk.injEq] at hg
    obtain ⟨rfl, rfl⟩ := hg
    have h0 := hc _ (by simp : okRow els ∈ [okRow els, okRow els2])
    have h1 := hc _ (by simp : okRow els2 ∈ [okRow els, okRow els2])
    obtain ⟨g1, g2, g3⟩ := okRow_spec h0
    obtain ⟨k1, k2, k3⟩ := okRow_spec h1
    refine C_of_calls (args := [.lst sz els full, .lst sz2 els2 full2]) fun κ w vs hk hl hr => ?_
    have hl2 : vs.size = 2 := by simpa using hl
    have q1 : vs[0]? = some vs[0] := by simp [show 0 < vs.size by omega]
    have q2 : vs[1]? = some vs[1] := by simp [show 1 < vs.size by omega]
    have r1 := hr 0 _ _ rfl q1
    have r2 := hr 1 _ _ rfl q2
    rw [g1] at r1
    rw [k1] at r2
    obtain ⟨A, c, hA, hR⟩ := row_of r1
    obtain ⟨A2, c2, hA2, hR2⟩ := row_of r2
    have : vs = #[.slice A (toRow els).length c, .slice A2 (toRow els2).length c2] := by
      apply Array.ext
      · simpa using hl
      · intro i hi hi2
        simp at hi2
        have : i = 0 ∨ i = 1 := by omega
        rcases this with rfl | rfl
        · simpa using hA
        · simpa using hA2
    subst this
    refine (same_any A A2 c c2 _ _ w hR hR2 g3).mono ?_
    rintro e w' ⟨rfl, hB⟩
    exact ⟨_, κ, rfl, .bool _, ⟨hB.size, hB.os, hB.output⟩, fun b hb => ⟨hB.block b hb, rfl⟩, fun b hb => Nat.lt_of_lt_of_le (hk b hb) hB.size⟩
  · cases hg

end Go.Proofs.Ytljfolepmkcjlaa
