/-
  Texts that the claim leans on, one behind the other, part 2.
-/
import Derived.Test.YtljfolepmkcjlaaXn1
import Derived.Test.YtljfolepmkcjlaaAmC
import Derived.Lib.Bytealg
import Derived.IntWalk

/-
  The record layer's contracts for the abstract machine, out of the walks.
-/
namespace Go.Proofs.Ytljfolepmkcjlaa
open Go.RowKit Plain Am

def vD (v : Val) : DV := .agg [.int .u8 v.k, .int .i64 v.n, .str v.s]
def toVal : DV → Val
  | .agg [.int _ k, .int _ n, .str s] => ⟨k, n, s⟩
  | _ => ⟨0, 0, []⟩
def wfB (v : Val) : Bool := decide (0 ≤ v.k) && decide (v.k ≤ 255) && decide (-9223372036854775808 ≤ v.n) && decide (v.n ≤ 9223372036854775807)
def isVal : DV → Bool
  | .agg [.int .u8 k, .int .i64 n, .str s] => wfB ⟨k, n, s⟩
  | _ => false
def toRow (els : List DV) : List Val := els.map toVal
def okRow (els : List DV) : Bool := decide (els.length ≤ 65536) && els.all isVal

theorem wfB_iff (v : Val) : wfB v = true ↔ v.wf := by simp [wfB, Val.wf, and_assoc]

theorem isVal_spec {x : DV} (h : isVal x = true) : x = vD (toVal x) ∧ (toVal x).wf := by
  unfold isVal at h
  split at h
  · exact ⟨rfl, (wfB_iff _).1 h⟩
  · cases h
theorem toVal_vD (v : Val) : toVal (vD v) = v := rfl
theorem toRow_map (l : List Val) : toRow (l.map vD) = l := by
  induction l with
  | nil => rfl
  | cons v r ih =>
    simp only [toRow, List.map_cons, toVal_vD, List.cons.injEq, true_and]
    exact ih
theorem okRow_map {l : List Val} (hl : l.length ≤ 65536) (hw : ∀ v ∈ l, v.wf) : okRow (l.map vD) = true := by
  simp only [okRow, Bool.and_eq_true, decide_eq_true_eq, List.length_map, List.all_eq_true, List.mem_map]
  refine ⟨hl, ?_⟩
  rintro x ⟨v, hv, rfl⟩
  exact (wfB_iff v).2 (hw v hv)
theorem map_toRow : ∀ {els : List DV}, (∀ x ∈ els, isVal x = true) → els = (toRow els).map vD ∧ ∀ v ∈ toRow els, v.wf
  | [], _ => by simp [toRow]
  | x :: r, h => by
    obtain ⟨g1, g2⟩ := map_toRow (els := r) (fun y hy => h y (by simp [hy]))
    obtain ⟨e1, e2⟩ := isVal_spec (h x (by simp))
    refine ⟨?_, ?_⟩
    · show x :: r = vD (toVal x) :: (toRow r).map vD
      rw [← e1, ← g1]
    · intro v hv
      have : v ∈ toVal x :: toRow r := hv
      rcases List.mem_cons.1 this with rfl | hv
      · exact e2
      · exact g2 v hv
theorem okRow_spec {els : List DV} (h : okRow els = true) : els = (toRow els).map vD ∧ (∀ v ∈ toRow els, v.wf) ∧ (toRow els).length ≤ 65536 := by
  simp only [okRow, Bool.and_eq_true, decide_eq_true_eq, List.all_eq_true] at h
  obtain ⟨g1, g2⟩ := map_toRow h.2
  exact ⟨g1, g2, by simpa [toRow] using h.1⟩

theorem vD_cells (v : Val) : (vD v).cells = [.int .u8 v.k, .int .i64 v.n, .str v.s] := rfl

/-- A slice that reads as a row is one. -/
theorem row_of {κ : Kap} {w : World} {sz : Nat} {l : List Val} {full : Bool} {v : Value} (r : DR κ w.heap (.lst sz (l.map vD) full) v) : ∃ A c, v = .slice A l.length c ∧ Row w A l := by
  generalize he : l.map vD = els at r
  cases r with
  | lst0 hf =>
    have : l = [] := by simpa using he
    subst this
    exact ⟨_, _, rfl, Sl.nil w 3 _⟩
  | @lst _ _ _ b off cap c ty fz hκ hb hf hc hs hz hr =>
    subst he
    refine ⟨_, _, by rw [List.length_map], ⟨by rw [rowCells_length], fun h0 => ⟨b, off, rfl, fun j u hj => ?_⟩⟩⟩
    rw [cell_at hb]
    have hjl : j < l.length * 3 := by rw [← rowCells_length]; exact (List.getElem?_eq_some_iff.1 hj).1
    have hi : j / 3 < l.length := by omega
    have hx : (l.map vD)[j / 3]? = some (vD l[j / 3]) := by simp [hi]
    have hsz : sz = 3 := by
      have := (hz _ (List.mem_of_getElem? hx)).1
      simpa [vD_cells] using this.symm
    subst hsz
    obtain ⟨g0, g1, g2⟩ := rowCells_get l (j / 3) hi
    have hcs : off + j < c.size := by
      have : l.length ≤ cap := by simpa using hc
      omega
    have key : ∀ (t : Nat) (y : DV) (u' : Value), j = j / 3 * 3 + t → [DV.int .u8 l[j / 3].k, .int .i64 l[j / 3].n, .str l[j / 3].s][t]? = some y → (rowCells l)[j]? = some u' → y.one = some u' → c[off + j]? = some u := by
      intro t y u' hj2 hy hu hone
      rw [hj] at hu
      injection hu with hu
      subst hu
      have e : c[off + j]? = some c[off + j] := by simp [hcs]
      have := (hr (j / 3) _ t y c[off + j] hx (by rw [vD_cells]; exact hy) (by rw [show off + j / 3 * 3 + t = off + j by omega]; exact e)).one hone
      rw [e, this]
    have h3 : j = j / 3 * 3 + 0 ∨ j = j / 3 * 3 + 1 ∨ j = j / 3 * 3 + 2 := by omega
    rcases h3 with h3 | h3 | h3
    · exact key 0 _ _ h3 rfl ((congrArg (fun q => (rowCells l)[q]?) h3).trans g0) rfl
    · exact key 1 _ _ h3 rfl ((congrArg (fun q => (rowCells l)[q]?) h3).trans g1) rfl
    · exact key 2 _ _ h3 rfl ((congrArg (fun q => (rowCells l)[q]?) h3).trans g2) rfl

/-- A row as an argument: what a walk over every such row says. -/
theorem C_row {f : FuncId} {sz : Nat} {els : List DV} {full : Bool} {d : DV} {v : Value} (h0 : okRow els = true) (hd : d.flat = some v)
    (h : ∀ (A : Option Addr) (c : Nat) (w : World), Row w A (toRow els) → Calls Try.prog f #[.slice A (toRow els).length c] w fun e w' => e = .returned v ∧ Below w.heap.size w w') :
    C Try.prog f [.d (.lst sz els full)] [] (fun r o => r = .d d ∧ o = []) := by
  refine C_of_calls (args := [.lst sz els full]) fun κ w vs hk hl hr => ?_
  have hl1 : vs.size = 1 := by simpa using hl
  have e1 : vs[0]? = some vs[0] := by simp [show 0 < vs.size by omega]
  have r := hr 0 _ _ rfl e1
  rw [(okRow_spec h0).1] at r
  obtain ⟨A, c, hA, hR⟩ := row_of r
  have : vs = #[.slice A (toRow els).length c] := by
    apply Array.ext
    · simpa using hl
    · intro i hi hi2
      simp at hi2; subst hi2
      simpa using hA
  subst this
  refine (h A c w hR).mono ?_
  rintro e w' ⟨rfl, hB⟩
  exact ⟨v, κ, rfl, DR.of_flat hd, ⟨hB.size, hB.os, hB.output⟩, fun b hb => ⟨hB.block b hb, rfl⟩, fun b hb => Nat.lt_of_lt_of_le (hk b hb) hB.size⟩

def putD (l : List Val) : DV := .tup [.str (putRow l).1, .int .i64 (putRow l).2]
def gRow (k : List Val → DV) (c : List Val → Bool) : DV → Option (DV × List Bool)
  | .lst _ els _ => some (k (toRow els), [okRow els, c (toRow els)])
  | _ => none

theorem gRow_ok {f : FuncId} {k : List Val → DV} {c : List Val → Bool} (h : ∀ (l : List Val), l.length ≤ 65536 → (∀ v ∈ l, v.wf) → c l = true → ∃ v, (k l).flat = some v ∧
    ∀ (A : Option Addr) (c : Nat) (w : World), Row w A l → Calls Try.prog f #[.slice A l.length c] w fun e w' => e = .returned v ∧ Below w.heap.size w w') : EntOk Try.prog f (e1 (gRow k c)) := by
  refine e1_ok fun x y cs hg hc => ?_
  unfold gRow at hg
  split at hg
  · rename_i sz els full
    simp only [Option.some.injEq, Prod.mk.injEq] at hg
    obtain ⟨rfl, rfl⟩ := hg
    have h0 := hc _ (by simp : okRow els ∈ [okRow els, c (toRow els)])
    have h1 := hc _ (by simp : c (toRow els) ∈ [okRow els, c (toRow els)])
    obtain ⟨g1, g2, g3⟩ := okRow_spec h0
    obtain ⟨v, hv, hw⟩ := h _ g3 g2 h1
    exact C_row h0 hv hw
  · cases hg

theorem put_ent : EntOk Try.prog 55 (e1 (gRow putD fun _ => true)) :=
  gRow_ok fun l h1 h2 _ => ⟨_, rfl, fun A c w hr => put09_any A c l w hr h1 h2⟩
theorem rcheck_ent : EntOk Try.prog 81 (e1 (gRow (fun l => .int .i64 (chkRow l)) fun _ => true)) :=
  gRow_ok fun l h1 _ _ => ⟨_, rfl, fun A c w hr => rrow_any A c l w hr h1⟩
theorem rall_ent : EntOk Try.prog 82 (e1 (gRow (fun l => .str (allL l)) fun l => decide (l.length ≤ 16) && l.all fun v => chk v == 0)) :=
  gRow_ok fun l h1 h2 h3 => ⟨_, rfl, fun A c w hr => rall_any A c l w hr (by simp at h3; exact h3.1) (fun v hv => by simp at h3; exact h3.2 v hv) h2⟩

def sameG : DV → DV → Option (DV × List Bool)
  | .lst _ e1 _, .lst _ e2 _ => some (.bool (decide (toRow e1 = toRow e2)), [okRow e1, okRow e2])
  | _, _ => none
theorem same_ent : EntOk Try.prog 36 (e2 sameG) := by
  refine e2_ok fun x x2 y cs hg hc => ?_
  unfold sameG at hg
  split at hg
  · rename_i sz els full sz2 els2 full2
    simp only [Option.some.injEq, Prod.mk.injEq] at hg
    obtain ⟨rfl, rfl⟩ := hg
    have h0 := hc _ (by simp : okRow els ∈ [okRow els, okRow els2])
    have h1 := hc _ (by simp : okRow els2 ∈ [okRow els, okRow els2])
    obtain ⟨g1, g2, g3⟩ := okRow_spec h0
    obtain ⟨k1, k2, k3⟩ := okRow_spec h1
    refine C_of_calls (args := [.lst sz els full, .lst sz2 els2 full2]) fun κ w vs hk hl hr => ?_
    have hl2 : vs.size = 2 := by simpa using hl
    have q1 : vs[0]? = some vs[0] := by simp [show 0 < vs.size by omega]
    have q2 : vs[1]? = some vs[1] := by simp [show 1 < vs.size by omega]
    have r1 := hr 0 _ _ rfl q1
    have r2 := hr 1 _ _ rfl q2
    rw [g1] at r1
    rw [k1] at r2
    obtain ⟨A, c, hA, hR⟩ := row_of r1
    obtain ⟨A2, c2, hA2, hR2⟩ := row_of r2
    have : vs = #[.slice A (toRow els).length c, .slice A2 (toRow els2).length c2] := by
      apply Array.ext
      · simpa using hl
      · intro i hi hi2
        simp at hi2
        have : i = 0 ∨ i = 1 := by omega
        rcases this with rfl | rfl
        · simpa using hA
        · simpa using hA2
    subst this
    refine (same_any A A2 c c2 _ _ w hR hR2 g3).mono ?_
    rintro e w' ⟨rfl, hB⟩
    exact ⟨_, κ, rfl, .bool _, ⟨hB.size, hB.os, hB.output⟩, fun b hb => ⟨hB.block b hb, rfl⟩, fun b hb => Nat.lt_of_lt_of_le (hk b hb) hB.size⟩
  · cases hg

end Go.Proofs.Ytljfolepmkcjlaa

/-
  Plain facts about changes: their order, which changesets may be, one set upon the other. No program in sight.
-/
namespace Go.Proofs.Ytljfolepmkcjlaa.Plain

structure Chg where
  t : Bs
  k : List Val
  o : List Val
  n : List Val
  deriving DecidableEq

def cmpI (a b : Int) : Int := if a < b then -1 else if a > b then 1 else 0
def cmpS (s t : Bs) : Int := Go.Lib.compareBytes s t
def cmpV (a b : Val) : Int := if a.k < b.k then -1 else if a.k > b.k then 1 else if a.k = 1 then cmpI a.n b.n else if a.k = 2 ∨ a.k = 3 then cmpS a.s b.s else 0
def cmpR : List Val → List Val → Int
  | [], [] => 0
  | [], _ :: _ => -1
  | _ :: _, [] => 1
  | a :: r, b :: q => if cmpV a b = 0 then cmpR r q else cmpV a b
def cmpC (a b : Chg) : Int := if cmpS a.t b.t = 0 then cmpR a.k b.k else cmpS a.t b.t

/-- may a row be put? -/
def rowB (l : List Val) : Bool := decide ((putRow l).2 = 0)
def mayC (c : Chg) : Bool := decide (1 ≤ c.t.length) && decide (c.t.length ≤ 32) && decide (1 ≤ c.k.length) && !decide (c.o = c.n) && rowB c.k && rowB c.o && rowB c.n
/-- each may be, and each stands behind the one before it -/
def mayI : Option Chg → List Chg → Bool
  | _, [] => true
  | p, x :: r => mayC x && (match p with | none => true | some y => decide (cmpC y x < 0)) && mayI (some x) r
def mayL (l : List Chg) : Bool := decide (l.length ≤ 1000) && mayI none l

/-! ### The order -/
theorem cmpI_anti (a b : Int) : cmpI b a = - cmpI a b := by unfold cmpI; split <;> split <;> (try split) <;> omega
theorem cmpI_eq {a b : Int} (h : cmpI a b = 0) : a = b := by unfold cmpI at h; split at h <;> (try split at h) <;> omega
theorem cmpI_lt {a b : Int} : cmpI a b < 0 ↔ a < b := by unfold cmpI; split <;> (try split) <;> omega

theorem cmpS_self : ∀ (s : Bs), cmpS s s = 0
  | [] => rfl
  | a :: r => by
    show Go.Lib.compareBytes (a :: r) (a :: r) = 0
    rw [Go.Lib.compareBytes, if_neg (UInt8.lt_irrefl a), if_neg (UInt8.lt_irrefl a)]
    exact cmpS_self r
theorem cmpS_anti : ∀ (s t : Bs), cmpS t s = - cmpS s t
  | [], [] => rfl
  | [], _ :: _ => rfl
  | _ :: _, [] => rfl
  | a :: r, b :: q => by
    have ih := cmpS_anti r q
    simp only [cmpS, Go.Lib.compareBytes] at *
    have := @UInt8.lt_asymm a b
    by_cases h1 : a < b
    · simp [h1, this h1]
    · by_cases h2 : b < a
      · simp [h1, h2]
      · simp [h1, h2, ih]
theorem cmpS_eq : ∀ {s t : Bs}, cmpS s t = 0 → s = t
  | [], [], _ => rfl
  | [], _ :: _, h => by simp [cmpS, Go.Lib.compareBytes] at h
  | _ :: _, [], h => by simp [cmpS, Go.Lib.compareBytes] at h
  | a :: r, b :: q, h => by
    simp only [cmpS, Go.Lib.compareBytes] at h
    by_cases h1 : a < b
    · simp [h1] at h
    · by_cases h2 : b < a
      · simp [h1, h2] at h
      · simp only [h1, h2, if_false] at h
        have : a = b := by
          have e1 : ¬ a.toNat < b.toNat := fun hh => h1 (UInt8.lt_iff_toNat_lt.2 hh)
          have e2 : ¬ b.toNat < a.toNat := fun hh => h2 (UInt8.lt_iff_toNat_lt.2 hh)
          exact UInt8.toNat_inj.1 (by omega)
        rw [this, cmpS_eq (s := r) (t := q) h]
theorem cmpS_trans : ∀ {a b c : Bs}, cmpS a b < 0 → cmpS b c < 0 → cmpS a c < 0
  | [], [], _, h, _ => by simp [cmpS, Go.Lib.compareBytes] at h
  | [], _ :: _, [], _, h => by simp [cmpS, Go.Lib.compareBytes] at h
  | [], _ :: _, _ :: _, _, _ => by simp [cmpS, Go.Lib.compareBytes]
  | _ :: _, [], _, h, _ => by simp [cmpS, Go.Lib.compareBytes] at h
  | _ :: _, _ :: _, [], _, h => by simp [cmpS, Go.Lib.compareBytes] at h
  | a :: r, b :: q, c :: p, h1, h2 => by
    have ih := @cmpS_trans r q p
    simp only [cmpS, Go.Lib.compareBytes, UInt8.lt_iff_toNat_lt] at *
    by_cases x1 : a.toNat < b.toNat
    · by_cases x2 : b.toNat < c.toNat
      · rw [if_pos (by omega)]; omega
      · rw [if_neg x2] at h2
        by_cases x3 : c.toNat < b.toNat
        · rw [if_pos x3] at h2; omega
        · rw [if_pos (by omega)]; omega
    · rw [if_neg x1] at h1
      by_cases x4 : b.toNat < a.toNat
      · rw [if_pos x4] at h1; omega
      · rw [if_neg x4] at h1
        by_cases x2 : b.toNat < c.toNat
        · rw [if_pos (by omega)]; omega
        · rw [if_neg x2] at h2
          by_cases x3 : c.toNat < b.toNat
          · rw [if_pos x3] at h2; omega
          · rw [if_neg x3] at h2
            rw [if_neg (by omega), if_neg (by omega)]
            exact ih h1 h2

theorem cmpV_self (v : Val) : cmpV v v = 0 := by
  unfold cmpV
  rw [if_neg (by omega), if_neg (by omega)]
  split
  · unfold cmpI; split <;> (try split) <;> omega
  · split
    · exact cmpS_self _
    · rfl
theorem cmpV_anti (a b : Val) : cmpV b a = - cmpV a b := by
  unfold cmpV
  by_cases h1 : a.k < b.k
  · rw [if_neg (by omega), if_pos (by omega), if_pos h1]; omega
  · by_cases h2 : a.k > b.k
    · rw [if_pos (by omega), if_neg h1, if_pos h2]
    · have he : b.k = a.k := by omega
      rw [if_neg h2, if_neg h1, if_neg h1, if_neg h2, he]
      split
      · exact cmpI_anti _ _
      · split
        · exact cmpS_anti _ _
        · rfl
theorem cmpV_eq {a b : Val} (ha : chk a = 0) (hb : chk b = 0) (wa : a.wf) (wb : b.wf) (h : cmpV a b = 0) : a = b := by
  obtain ⟨a1, a2, a3, _⟩ := chk_zero ha
  obtain ⟨b1, b2, b3, _⟩ := chk_zero hb
  obtain ⟨x1, _⟩ := wa
  unfold cmpV at h
  by_cases h1 : a.k < b.k
  · rw [if_pos h1] at h; omega
  · rw [if_neg h1] at h
    by_cases h2 : a.k > b.k
    · rw [if_pos h2] at h; omega
    · rw [if_neg h2] at h
      obtain ⟨ak, an, aq⟩ := a
      obtain ⟨bk, bn, bs⟩ := b
      simp only at *
      have hk : ak = bk := by omega
      subst hk
      by_cases h3 : ak = 1
      · rw [if_pos h3] at h
        have := cmpI_eq h
        have e1 : aq = [] := by rcases a3 with h | h; omega; exact h
        have e2 : bs = [] := by rcases b3 with h | h; omega; exact h
        subst this e1 e2; rfl
      · have e1 : an = 0 := by rcases a2 with h | h; omega; exact h
        have e2 : bn = 0 := by rcases b2 with h | h; omega; exact h
        rw [if_neg h3] at h
        by_cases h4 : ak = 2 ∨ ak = 3
        · rw [if_pos h4] at h
          have := cmpS_eq h
          subst this e1 e2; rfl
        · have e3 : aq = [] := by rcases a3 with h | h; omega; exact h
          have e4 : bs = [] := by rcases b3 with h | h; omega; exact h
          subst e1 e2 e3 e4; rfl
theorem cmpV_trans {a b c : Val} (h1 : cmpV a b < 0) (h2 : cmpV b c < 0) : cmpV a c < 0 := by
  unfold cmpV at *
  by_cases x1 : a.k < b.k
  · by_cases x2 : b.k > c.k
    · rw [if_neg (by omega), if_pos x2] at h2; omega
    · rw [if_pos (by omega)]; omega
  · rw [if_neg x1] at h1
    by_cases x2 : a.k > b.k
    · rw [if_pos x2] at h1; omega
    · rw [if_neg x2] at h1
      by_cases y1 : b.k < c.k
      · rw [if_pos (by omega)]; omega
      · rw [if_neg y1] at h2
        by_cases y2 : b.k > c.k
        · rw [if_pos y2] at h2; omega
        · rw [if_neg y2] at h2
          rw [if_neg (by omega), if_neg (by omega)]
          have e : b.k = a.k := by omega
          rw [e] at h2
          by_cases z1 : a.k = 1
          · rw [if_pos z1] at h1 h2 ⊢
            rw [cmpI_lt] at *; omega
          · rw [if_neg z1] at h1 h2 ⊢
            by_cases z2 : a.k = 2 ∨ a.k = 3
            · rw [if_pos z2] at h1 h2 ⊢
              exact cmpS_trans h1 h2
            · rw [if_neg z2] at h1; omega

/-- the values of a row that may be -/
def rowOk (l : List Val) : Prop := ∀ v ∈ l, chk v = 0 ∧ v.wf

theorem cmpR_self : ∀ (l : List Val), cmpR l l = 0
  | [] => rfl
  | v :: r => by simp only [cmpR, cmpV_self, if_true]; exact cmpR_self r
theorem cmpR_anti : ∀ (a b : List Val), cmpR b a = - cmpR a b
  | [], [] => rfl
  | [], _ :: _ => rfl
  | _ :: _, [] => rfl
  | a :: r, b :: q => by
    have ih := cmpR_anti r q
    simp only [cmpR, cmpV_anti a b]
    by_cases h : cmpV a b = 0
    · rw [if_pos h, if_pos (by omega), ih]
    · rw [if_neg h, if_neg (by omega)]
theorem cmpR_eq : ∀ {a b : List Val}, rowOk a → rowOk b → cmpR a b = 0 → a = b
  | [], [], _, _, _ => rfl
  | [], _ :: _, _, _, h => by simp [cmpR] at h
  | _ :: _, [], _, _, h => by simp [cmpR] at h
  | a :: r, b :: q, ha, hb, h => by
    simp only [cmpR] at h
    by_cases x : cmpV a b = 0
    · rw [if_pos x] at h
      have e := cmpV_eq (ha a (by simp)).1 (hb b (by simp)).1 (ha a (by simp)).2 (hb b (by simp)).2 x
      have e2 := cmpR_eq (a := r) (b := q) (fun v hv => ha v (by simp [hv])) (fun v hv => hb v (by simp [hv])) h
      rw [e, e2]
    · rw [if_neg x] at h; exact absurd h x
theorem cmpR_trans : ∀ {a b c : List Val}, rowOk a → rowOk b → rowOk c → cmpR a b < 0 → cmpR b c < 0 → cmpR a c < 0
  | [], [], _, _, _, _, h, _ => by simp [cmpR] at h
  | [], _ :: _, [], _, _, _, _, h => by simp [cmpR] at h
  | [], _ :: _, _ :: _, _, _, _, _, _ => by simp [cmpR]
  | _ :: _, [], _, _, _, _, h, _ => by simp [cmpR] at h
  | _ :: _, _ :: _, [], _, _, _, _, h => by simp [cmpR] at h
  | a :: r, b :: q, c :: p, ha, hb, hc, h1, h2 => by
    have ih := @cmpR_trans r q p (fun v hv => ha v (by simp [hv])) (fun v hv => hb v (by simp [hv])) (fun v hv => hc v (by simp [hv]))
    have va := ha a (by simp)
    have vb := hb b (by simp)
    have vc := hc c (by simp)
    simp only [cmpR] at *
    by_cases x : cmpV a b = 0
    · have e := cmpV_eq va.1 vb.1 va.2 vb.2 x
      subst e
      rw [if_pos x] at h1
      by_cases y : cmpV a c = 0
      · rw [if_pos y] at h2 ⊢; exact ih h1 h2
      · rw [if_neg y] at h2 ⊢; exact h2
    · rw [if_neg x] at h1
      by_cases y : cmpV b c = 0
      · have e := cmpV_eq vb.1 vc.1 vb.2 vc.2 y
        subst e
        rw [if_neg x]; exact h1
      · rw [if_neg y] at h2
        have := cmpV_trans h1 h2
        rw [if_neg (by omega)]; exact this

def Chg.wf (c : Chg) : Prop := (∀ v ∈ c.k, v.wf) ∧ (∀ v ∈ c.o, v.wf) ∧ (∀ v ∈ c.n, v.wf)

theorem cmpC_self (c : Chg) : cmpC c c = 0 := by unfold cmpC; rw [if_pos (cmpS_self _)]; exact cmpR_self _
theorem cmpC_anti (a b : Chg) : cmpC b a = - cmpC a b := by
  unfold cmpC
  rw [cmpS_anti a.t b.t]
  by_cases h : cmpS a.t b.t = 0
  · rw [if_pos h, if_pos (by omega)]; exact cmpR_anti _ _
  · rw [if_neg h, if_neg (by omega)]
theorem cmpC_eq {a b : Chg} (ha : rowOk a.k) (hb : rowOk b.k) (h : cmpC a b = 0) : a.t = b.t ∧ a.k = b.k := by
  unfold cmpC at h
  by_cases x : cmpS a.t b.t = 0
  · rw [if_pos x] at h; exact ⟨cmpS_eq x, cmpR_eq ha hb h⟩
  · rw [if_neg x] at h; exact absurd h x
theorem cmpC_of {a b : Chg} (ht : a.t = b.t) (hk : a.k = b.k) : cmpC a b = 0 := by
  unfold cmpC; rw [ht, hk, if_pos (cmpS_self _)]; exact cmpR_self _
theorem cmpC_trans {a b c : Chg} (ha : rowOk a.k) (hb : rowOk b.k) (hc : rowOk c.k) (h1 : cmpC a b < 0) (h2 : cmpC b c < 0) : cmpC a c < 0 := by
  unfold cmpC at *
  by_cases x : cmpS a.t b.t = 0
  · have e := cmpS_eq x
    rw [if_pos x] at h1
    rw [e]
    by_cases y : cmpS b.t c.t = 0
    · rw [if_pos y] at h2 ⊢; exact cmpR_trans ha hb hc h1 h2
    · rw [if_neg y] at h2 ⊢; exact h2
  · rw [if_neg x] at h1
    by_cases y : cmpS b.t c.t = 0
    · have e := cmpS_eq y
      rw [← e, if_neg x]; exact h1
    · rw [if_neg y] at h2
      have := cmpS_trans h1 h2
      rw [if_neg (by omega)]; exact this

theorem mayC_key {c : Chg} (h : mayC c = true) (w : c.wf) : rowOk c.k := by
  simp only [mayC, Bool.and_eq_true, rowB, decide_eq_true_eq] at h
  have := putRow_ok h.1.1.2
  have h2 := (chkRow_zero this.1).2
  exact fun v hv => ⟨h2 v hv, w.1 v hv⟩

/-- the first stands ahead of all that follow -/
def sorted : List Chg → Prop
  | [] => True
  | x :: r => (∀ y ∈ r, cmpC x y < 0) ∧ sorted r

theorem mayI_spec : ∀ {l : List Chg} {p : Option Chg}, mayI p l = true → (∀ c ∈ l, c.wf) → (∀ q, p = some q → rowOk q.k) → (∀ c ∈ l, mayC c = true ∧ rowOk c.k) ∧ sorted l ∧ ∀ q, p = some q → ∀ c ∈ l, cmpC q c < 0
  | [], p, _, _, _ => ⟨by simp, trivial, by simp⟩
  | x :: r, p, h, w, hq => by
    simp only [mayI, Bool.and_eq_true] at h
    obtain ⟨⟨h1, h2⟩, h3⟩ := h
    have hx := mayC_key h1 (w x (by simp))
    obtain ⟨i1, i2, i3⟩ := mayI_spec h3 (fun c hc => w c (by simp [hc])) (fun q e => by injection e with e; subst e; exact hx)
    refine ⟨?_, ⟨i3 x rfl, i2⟩, ?_⟩
    · intro c hc
      rcases List.mem_cons.1 hc with rfl | hc
      · exact ⟨h1, hx⟩
      · exact i1 c hc
    · rintro q rfl c hc
      simp only [decide_eq_true_eq] at h2
      rcases List.mem_cons.1 hc with rfl | hc
      · exact h2
      · exact cmpC_trans (hq q rfl) hx (i1 c hc).2 h2 (i3 x rfl c hc)

/-! ### One upon the other -/
/-- goes over ours with what is left of theirs -/
def walkC : List Chg → List Chg → Option (List (Chg × Option Chg))
  | [], _ => some []
  | x :: r, th => match th.dropWhile (fun y => decide (cmpC y x < 0)) with
    | [] => (walkC r []).map fun q => (x, none) :: q
    | y :: q => if cmpC y x > 0 then (walkC r (y :: q)).map fun p => (x, none) :: p
      else if x.o = y.o then (walkC r (y :: q)).map fun p => (x, some y) :: p else none
def atC (x : Chg) (l : List Chg) : Option Chg := l.find? fun y => decide (y.t = x.t ∧ y.k = x.k)
def fits (th : List Chg) (x : Chg) : Bool := match atC x th with
  | none => true
  | some y => decide (x.o = y.o)
def upF (win : Bool) : Chg × Option Chg → Option Chg
  | (x, none) => some x
  | (x, some y) => if win = true ∧ x.n ≠ y.n then some ⟨x.t, x.k, y.n, x.n⟩ else none
def meF : Chg × Option Chg → Option Chg
  | (_, none) => none
  | (x, some y) => if x.n ≠ y.n then some x else none

theorem atC_drop {x : Chg} : ∀ {l : List Chg}, atC x l = atC x (l.dropWhile fun y => decide (cmpC y x < 0))
  | [] => rfl
  | y :: r => by
    have ih := @atC_drop x r
    rw [List.dropWhile_cons]
    by_cases h : cmpC y x < 0
    · simp only [h, decide_true, if_true]
      rw [← ih]
      have : ¬ (y.t = x.t ∧ y.k = x.k) := fun ⟨a, b⟩ => by rw [cmpC_of a b] at h; omega
      simp [atC, this]
    · simp [h]
theorem dropWhile_drop {p q : Chg → Bool} (hpq : ∀ y, p y = true → q y = true) : ∀ (l : List Chg), (l.dropWhile p).dropWhile q = l.dropWhile q
  | [] => rfl
  | y :: r => by
    rw [List.dropWhile_cons, List.dropWhile_cons]
    by_cases h : p y = true
    · rw [if_pos h, if_pos (hpq y h)]; exact dropWhile_drop hpq r
    · rw [if_neg h, List.dropWhile_cons]

theorem sorted_drop (p : Chg → Bool) : ∀ {l : List Chg}, sorted l → sorted (l.dropWhile p)
  | [], h => h
  | y :: r, h => by
    rw [List.dropWhile_cons]
    split
    · exact sorted_drop p h.2
    · exact h

theorem mem_drop {p : Chg → Bool} {l : List Chg} {c : Chg} (h : c ∈ l.dropWhile p) : c ∈ l := (List.dropWhile_sublist p).subset h

theorem walkC_eq : ∀ (ours th : List Chg), (∀ c ∈ ours, rowOk c.k) → (∀ c ∈ th, rowOk c.k) → sorted ours → sorted th →
    walkC ours th = if ours.all (fits th) then some (ours.map fun x => (x, atC x th)) else none
  | [], th, _, _, _, _ => rfl
  | x :: r, th, ho, ht, so, st => by
    have hx := ho x (by simp)
    have hat : ∀ z ∈ r, ∀ l : List Chg, (∀ c ∈ l, rowOk c.k) → atC z l = atC z (l.dropWhile fun y => decide (cmpC y x < 0)) := by
      intro z hz l hl
      induction l with
      | nil => rfl
      | cons y q ih =>
        rw [List.dropWhile_cons]
        by_cases h : cmpC y x < 0
        · simp only [h, decide_true, if_true]
          rw [← ih (fun c hc => hl c (by simp [hc]))]
          have h2 := cmpC_trans (hl y (by simp)) hx (ho z (by simp [hz])) h (so.1 z hz)
          have : ¬ (y.t = z.t ∧ y.k = z.k) := fun ⟨a, b⟩ => by rw [cmpC_of a b] at h2; omega
          simp [atC, this]
        · simp [h]
    have hr : ∀ z ∈ r, atC z th = atC z (th.dropWhile fun y => decide (cmpC y x < 0)) := fun z hz => hat z hz th ht
    have hxa := @atC_drop x th
    have st2 := sorted_drop (fun y => decide (cmpC y x < 0)) st
    have ht2 : ∀ c ∈ th.dropWhile (fun y => decide (cmpC y x < 0)), rowOk c.k := fun c hc => ht c (mem_drop hc)
    have hhd : ∀ y q, th.dropWhile (fun y => decide (cmpC y x < 0)) = y :: q → ¬ cmpC y x < 0 := by
      intro y q e
      have := List.head?_dropWhile_not (fun y => decide (cmpC y x < 0)) th
      rw [e] at this
      simpa using this
    have ih := walkC_eq r (th.dropWhile fun y => decide (cmpC y x < 0)) (fun c hc => ho c (by simp [hc])) ht2 so.2 st2
    have hall : r.all (fits th) = r.all (fits (th.dropWhile fun y => decide (cmpC y x < 0))) := by
      apply Bool.eq_iff_iff.2
      simp only [List.all_eq_true, fits]
      constructor
      · intro h z hz; rw [← hr z hz]; exact h z hz
      · intro h z hz; rw [hr z hz]; exact h z hz
    have hmap : (r.map fun x => (x, atC x th)) = r.map fun z => (z, atC z (th.dropWhile fun y => decide (cmpC y x < 0))) := by
      apply List.map_congr_left
      intro z hz; rw [hr z hz]
    rw [List.all_cons, List.map_cons, hall, hmap, walkC]
    generalize th.dropWhile (fun y => decide (cmpC y x < 0)) = l at *
    have hf : fits th x = match atC x l with | none => true | some y => decide (x.o = y.o) := by rw [fits, hxa]
    rw [hf, hxa]
    cases l with
    | nil =>
      simp only [ih]
      simp only [atC, List.find?_nil, Bool.true_and]
      split <;> rfl
    | cons y q =>
      have hn := hhd y q rfl
      simp only [ih]
      by_cases h : cmpC y x > 0
      · have ha : atC x (y :: q) = none := by
          unfold atC
          rw [List.find?_eq_none]
          intro z hz
          simp only [decide_eq_true_eq]
          rintro ⟨a, b⟩
          have e0 := cmpC_of a b
          rcases List.mem_cons.1 hz with rfl | hz
          · omega
          · have h3 := st2.1 z hz
            have h4 : cmpC x y < 0 := by rw [cmpC_anti y x]; omega
            have h5 := cmpC_trans hx (ht2 y (by simp)) (ht2 z (by simp [hz])) h4 h3
            rw [cmpC_anti z x] at h5; omega
        rw [if_pos h, ha]
        simp only [Bool.true_and]
        split <;> rfl
      · have e0 : cmpC y x = 0 := by omega
        obtain ⟨e1, e2⟩ := cmpC_eq (ht2 y (by simp)) hx e0
        have ha : atC x (y :: q) = some y := by simp [atC, e1, e2]
        rw [if_neg h, ha]
        simp only
        by_cases h5 : x.o = y.o
        · simp only [h5, if_true, decide_true, Bool.true_and]
          split <;> rfl
        · simp [h5]

/-- what is answered: the changes, and the error -/
def meetR (f : Chg × Option Chg → Option Chg) (ours th : List Chg) : List Chg × Int :=
  if mayL ours && mayL th then
    match walkC ours th with
    | some l => (l.filterMap f, 0)
    | none => ([], 220)
  else ([], 2)
def refE (ours th : List Chg) : Int := if mayL ours && mayL th then (if ours.all (fits th) then 0 else 220) else 2
def meetQ (f : Chg × Option Chg → Option Chg) (ours th : List Chg) : List Chg × Int :=
  if refE ours th = 0 then (ours.filterMap fun x => f (x, atC x th), 0) else ([], refE ours th)
theorem meet_eq (f : Chg × Option Chg → Option Chg) (ours th : List Chg) (wo : ∀ c ∈ ours, c.wf) (wt : ∀ c ∈ th, c.wf) : meetR f ours th = meetQ f ours th := by
  unfold meetR meetQ refE
  by_cases h : (mayL ours && mayL th) = true
  · simp only [h, if_true]
    simp only [mayL, Bool.and_eq_true] at h
    obtain ⟨⟨_, h1⟩, ⟨_, h2⟩⟩ := h
    obtain ⟨a1, a2, _⟩ := mayI_spec h1 wo (by simp)
    obtain ⟨b1, b2, _⟩ := mayI_spec h2 wt (by simp)
    rw [walkC_eq ours th (fun c hc => (a1 c hc).2) (fun c hc => (b1 c hc).2) a2 b2]
    by_cases h3 : ours.all (fits th) = true
    · simp [h3, List.filterMap_map, Function.comp_def]
    · simp [h3]
  · simp [h]
end Go.Proofs.Ytljfolepmkcjlaa.Plain

/-
  Changes as data; what walks over them use.
-/
namespace Go.Proofs.Ytljfolepmkcjlaa
open Go.RowKit Plain Am IntWalk
set_option maxRecDepth 100000

noncomputable def cfT (l : List (Nat × Ent)) : Cfg := { E := Env.of Try.prog, K := konOf l, byref := fun _ => false, callOk := cok }
theorem cfT_ok {l : List (Nat × Ent)} (h : EntsOk Try.prog l) : Ok Try.prog (cfT l) := ⟨⟨rfl, konOf_ok h, fun _ h => h⟩, mixed⟩
theorem wrap_succ {i : Nat} (h : i ≤ 1000000) : IntKind.i64.wrap ((i : Int) + 1) = ((i + 1 : Nat) : Int) := by rw [i64_in _ (by omega)]; omega
abbrev Ends (rs : List ResultVar) (v : RV) : SSt → Prop := fun s => ∃ r objs' c, finish (Env.of Try.prog) true 0 rs s.R s.O = some (r, objs', c) ∧ (∀ b ∈ c, b = true) ∧ r = v ∧ objs' = []

abbrev rD (l : List Val) : DV := .lst 3 (l.map vD) false
def chD (c : Chg) : DV := .agg [.str c.t, rD c.k, rD c.o, rD c.n]
def toChg : DV → Chg
  | .agg [.str t, .lst _ k _, .lst _ o _, .lst _ n _] => ⟨t, toRow k, toRow o, toRow n⟩
  | _ => ⟨[], [], [], []⟩
def isR : DV → Bool
  | .lst sz els full => okRow els && decide (sz = 3) && !full
  | _ => false
def isC : DV → Bool
  | .agg [.str _, a, b, c] => isR a && isR b && isR c
  | _ => false
def Chg.ok (c : Chg) : Prop := c.wf ∧ c.k.length ≤ 65536 ∧ c.o.length ≤ 65536 ∧ c.n.length ≤ 65536
theorem isR_rD {l : List Val} (hl : l.length ≤ 65536) (hw : ∀ v ∈ l, v.wf) : isR (rD l) = true := by simp [isR, okRow_map hl hw]
theorem isC_chD {c : Chg} (h : Chg.ok c) : isC (chD c) = true := by
  obtain ⟨⟨w1, w2, w3⟩, l1, l2, l3⟩ := h
  simp only [chD, isC, isR_rD l1 w1, isR_rD l2 w2, isR_rD l3 w3]; rfl
theorem toChg_chD (c : Chg) : toChg (chD c) = c := by simp [chD, toChg, rD, toRow_map]
theorem isR_spec {x : DV} (h : isR x = true) : ∃ l, x = rD l ∧ (∀ v ∈ l, v.wf) ∧ l.length ≤ 65536 := by
  unfold isR at h
  split at h
  · rename_i sz els full
    simp only [Bool.and_eq_true, decide_eq_true_eq, Bool.not_eq_true'] at h
    obtain ⟨⟨h1, rfl⟩, rfl⟩ := h
    obtain ⟨g1, g2, g3⟩ := okRow_spec h1
    exact ⟨toRow els, by rw [rD, ← g1], g2, g3⟩
  · cases h
theorem isC_spec {x : DV} (h : isC x = true) : ∃ c, x = chD c ∧ Chg.ok c := by
  unfold isC at h
  split at h
  · rename_i t a b c
    simp only [Bool.and_eq_true] at h
    obtain ⟨⟨h1, h2⟩, h3⟩ := h
    obtain ⟨k, rfl, w1, l1⟩ := isR_spec h1
    obtain ⟨o, rfl, w2, l2⟩ := isR_spec h2
    obtain ⟨n, rfl, w3, l3⟩ := isR_spec h3
    exact ⟨⟨t, k, o, n⟩, rfl, ⟨w1, w2, w3⟩, l1, l2, l3⟩
  · cases h
theorem getD_val (l : List Val) (i : Nat) (h : i < l.length) : (l.map vD).getD i .nilp = vD l[i] := by simp [h]
theorem getD_chg (l : List Chg) (i : Nat) (h : i < l.length) : (l.map chD).getD i .nilp = chD l[i] := by simp [h]
end Go.Proofs.Ytljfolepmkcjlaa

/-
  What walks over changes answer: the tables' entries.
-/
namespace Go.Proofs.Ytljfolepmkcjlaa
open Go.RowKit Plain Am IntWalk
set_option maxRecDepth 100000

abbrev vv (k n : Int) (s : Bs) : DV := .agg [.int .u8 k, .int .i64 n, .str s]
def chL (l : List Chg) : DV := .lst 4 (l.map chD) false
def unR : DV → List Val
  | .lst _ els _ => toRow els
  | _ => []
def unL : DV → List Chg
  | .lst _ els _ => els.map toChg
  | _ => []
def isL : DV → Bool
  | .lst sz els full => decide (els.length ≤ 65536) && els.all isC && decide (sz = 4) && !full
  | _ => false
theorem unR_rD (l : List Val) : unR (rD l) = l := toRow_map l
theorem unL_map (l : List Chg) : (l.map chD).map toChg = l := by
  rw [List.map_map]
  conv => rhs; rw [← List.map_id l]
  exact List.map_congr_left fun c _ => toChg_chD c
theorem unL_chL (l : List Chg) : unL (chL l) = l := unL_map l
def okL (l : List Chg) : Prop := l.length ≤ 65536 ∧ ∀ c ∈ l, Chg.ok c
theorem isL_chL {l : List Chg} (h : okL l) : isL (chL l) = true := by
  simp only [isL, chL, List.length_map, Bool.and_eq_true, decide_eq_true_eq, List.all_eq_true, List.mem_map]
  refine ⟨⟨⟨h.1, ?_⟩, trivial⟩, rfl⟩
  rintro x ⟨c, hc, rfl⟩
  exact isC_chD (h.2 c hc)
theorem isL_spec {x : DV} (h : isL x = true) : ∃ l, x = chL l ∧ okL l := by
  unfold isL at h
  split at h
  · rename_i sz els full
    simp only [Bool.and_eq_true, decide_eq_true_eq, Bool.not_eq_true', List.all_eq_true] at h
    obtain ⟨⟨⟨h1, h2⟩, rfl⟩, rfl⟩ := h
    have : ∃ l : List Chg, els = l.map chD ∧ ∀ c ∈ l, Chg.ok c := by
      clear h1
      induction els with
      | nil => exact ⟨[], rfl, by simp⟩
      | cons x r ih =>
        obtain ⟨l, rfl, hl⟩ := ih (fun y hy => h2 y (by simp [hy]))
        obtain ⟨c, rfl, hc⟩ := isC_spec (h2 x (by simp))
        exact ⟨c :: l, rfl, fun d hd => by
          rcases List.mem_cons.1 hd with rfl | hd
          · exact hc
          · exact hl d hd⟩
    obtain ⟨l, rfl, hl⟩ := this
    exact ⟨l, rfl, by simpa using h1, hl⟩
  · cases h

/-- texts that are gone through byte by byte -/
def smV (v : Val) : Bool := decide (v.s.length ≤ 1000000)
def smR (l : List Val) : Bool := l.all smV
def smC (c : Chg) : Bool := decide (c.t.length ≤ 1000000) && smR c.k

def cvG : DV → DV → Option (DV × List Bool)
  | .agg [.int .u8 k, .int .i64 n, .str s], .agg [.int .u8 k2, .int .i64 n2, .str s2] => some (.int .i64 (cmpV ⟨k, n, s⟩ ⟨k2, n2, s2⟩), [])
  | _, _ => none
def rvG : DV → DV → Option (DV × List Bool)
  | .agg [.int .u8 k, .int .i64 n, .str s], .agg [.int .u8 k2, .int .i64 n2, .str s2] => some (.int .i64 (cmpV ⟨k, n, s⟩ ⟨k2, n2, s2⟩), [decide (0 ≤ k ∧ k ≤ 255), decide (0 ≤ k2 ∧ k2 ≤ 255), decide (s.length ≤ 1000000), decide (s2.length ≤ 1000000)])
  | _, _ => none
def nuG : DV → DV → Option (DV × List Bool)
  | .int .i64 a, .int .i64 b => some (.int .i64 (cmpI a b), [])
  | _, _ => none
def txG : DV → DV → Option (DV × List Bool)
  | .str s, .str t => some (.int .i64 (cmpS s t), [decide (s.length ≤ 1000000), decide (t.length ≤ 1000000)])
  | _, _ => none
def eqG (x y : DV) : Option (DV × List Bool) := some (.bool (decide (unR x = unR y)), [isR x, isR y])
def crG (x y : DV) : Option (DV × List Bool) := some (.int .i64 (cmpR (unR x) (unR y)), [isR x, isR y])
def rrG (x y : DV) : Option (DV × List Bool) := some (.int .i64 (cmpR (unR x) (unR y)), [isR x, isR y, smR (unR x), smR (unR y)])
def ccG (x y : DV) : Option (DV × List Bool) := some (.int .i64 (cmpC (toChg x) (toChg y)), [isC x, isC y])
def rcG (x y : DV) : Option (DV × List Bool) := some (.int .i64 (cmpC (toChg x) (toChg y)), [isC x, isC y, smC (toChg x), smC (toChg y)])
def myG (x : DV) : Option (DV × List Bool) := some (.bool (mayC (toChg x)), [isC x])
def roG (x : DV) : Option (DV × List Bool) := some (.bool (rowB (unR x)), [isR x])
def ckG (x : DV) : Option (DV × List Bool) := some (.int .i64 (if mayL (unL x) then 0 else 2), [isL x])
def maG (x : DV) : Option (DV × List Bool) := some (.bool (mayL (unL x)), [isL x])
/-- where the one that is met stands -/
def atI (x : Chg) : List Chg → Int
  | [] => -1
  | y :: r => if y.t = x.t ∧ y.k = x.k then 0 else if atI x r < 0 then -1 else atI x r + 1
def atG (x y : DV) : Option (DV × List Bool) := some (.int .i64 (atI (toChg x) (unL y)), [isC x, isL y])
def reG (x y : DV) : Option (DV × List Bool) := some (.int .i64 (refE (unL x) (unL y)), [isL x, isL y])
def smG (x y : DV) : Option (DV × List Bool) := some (.bool (decide (unL x = unL y)), [isL x, isL y])
/-- what the closures have added when going over ours has ended -/
def walkO (f : Chg × Option Chg → Option Chg) : List Chg → List Chg → List Chg
  | [], _ => []
  | x :: r, th => match th.dropWhile (fun y => decide (cmpC y x < 0)) with
    | [] => (f (x, none)).toList ++ walkO f r []
    | y :: q => if cmpC y x > 0 then (f (x, none)).toList ++ walkO f r (y :: q)
      else if x.o = y.o then (f (x, some y)).toList ++ walkO f r (y :: q) else []
def walkE : List Chg → List Chg → Int
  | [], _ => 0
  | x :: r, th => match th.dropWhile (fun y => decide (cmpC y x < 0)) with
    | [] => walkE r []
    | y :: q => if cmpC y x > 0 then walkE r (y :: q) else if x.o = y.o then walkE r (y :: q) else 220
theorem walk_OE (f : Chg × Option Chg → Option Chg) : ∀ (ours th : List Chg), (walkE ours th = 0 ∧ ∃ l, walkC ours th = some l ∧ walkO f ours th = l.filterMap f) ∨ (walkE ours th = 220 ∧ walkC ours th = none)
  | [], th => .inl ⟨rfl, [], rfl, rfl⟩
  | x :: r, th => by
    unfold walkE walkC walkO
    cases hd : th.dropWhile (fun y => decide (cmpC y x < 0)) with
    | nil =>
      simp only
      rcases walk_OE f r [] with ⟨h1, l, h2, h3⟩ | ⟨h1, h2⟩
      · refine .inl ⟨h1, (x, none) :: l, by rw [h2]; rfl, ?_⟩
        rw [h3, List.filterMap_cons]; cases f (x, none) <;> rfl
      · exact .inr ⟨h1, by rw [h2]; rfl⟩
    | cons y q =>
      simp only
      by_cases hg : cmpC y x > 0
      · simp only [hg, if_true]
        rcases walk_OE f r (y :: q) with ⟨h1, l, h2, h3⟩ | ⟨h1, h2⟩
        · refine .inl ⟨h1, (x, none) :: l, by rw [h2]; rfl, ?_⟩
          rw [h3, List.filterMap_cons]; cases f (x, none) <;> rfl
        · exact .inr ⟨h1, by rw [h2]; rfl⟩
      · simp only [hg, if_false]
        by_cases ho : x.o = y.o
        · simp only [ho, if_true]
          rcases walk_OE f r (y :: q) with ⟨h1, l, h2, h3⟩ | ⟨h1, h2⟩
          · refine .inl ⟨h1, (x, some y) :: l, by rw [h2]; rfl, ?_⟩
            rw [h3, List.filterMap_cons]; cases f (x, some y) <;> rfl
          · exact .inr ⟨h1, by rw [h2]; rfl⟩
        · simp [ho]
/-- the lists' error, the others' error -/
def meetE (ours th : List Chg) : Int := if mayL ours then (if mayL th then walkE ours th else 2) else 2
def meetO (f : Chg × Option Chg → Option Chg) (ours th : List Chg) : List Chg := if mayL ours && mayL th then walkO f ours th else []
theorem meetR_OE (f : Chg × Option Chg → Option Chg) (ours th : List Chg) : meetR f ours th = (if meetE ours th = 0 then meetO f ours th else [], meetE ours th) := by
  unfold meetR meetE meetO
  cases h1 : mayL ours <;> cases h2 : mayL th <;> simp
  rcases walk_OE f ours th with ⟨g1, l, g2, g3⟩ | ⟨g1, g2⟩
  · simp [g1, g2, g3]
  · simp [g1, g2]
def isS (o : Option Chg) : Bool := o.isSome
def isN (o : Option Chg) : Bool := o.isNone
def gF (o : Option Chg) : Chg := o.getD ⟨[], [], [], []⟩
/-- a closure's entry where something is added, and where nothing is -/
def cloU (yes : Bool) : Ent := fun a o => match a, o with
  | [.d x, y, .ptr 0 0, .ptr 1 0], [.box b [.d (.bool win)], .box l [.own 2 4], .arr T 4 els] => match y with
    | .d .nilp => some (.tup [], [.box b [.d (.bool win)], .box l [.own 3 4], .gone, .arr T 4 (els ++ [x])], [isC x, Nat.beq b 4, Nat.beq l 22, Nat.beq T 46, decide (els.length ≤ 1000000)])
    | .iptr yd 0 => match yes with
      | true => some (.tup [], [.box b [.d (.bool win)], .box l [.own 3 4], .gone, .arr T 4 (els ++ [chD (gF (upF win (toChg x, some (toChg yd))))])], [isC x, isC yd, Nat.beq b 4, Nat.beq l 22, Nat.beq T 46, decide (els.length ≤ 1000000), isS (upF win (toChg x, some (toChg yd)))])
      | false => some (.tup [], [.box b [.d (.bool win)], .box l [.own 2 4], .arr T 4 els], [isC x, isC yd, Nat.beq b 4, Nat.beq l 22, Nat.beq T 46, isN (upF win (toChg x, some (toChg yd)))])
    | _ => none
  | _, _ => none
def cloM (yes : Bool) : Ent := fun a o => match a, o with
  | [.d x, y, .ptr 0 0], [.box l [.own 1 4], .arr T 4 els] => match y with
    | .d .nilp => some (.tup [], [.box l [.own 1 4], .arr T 4 els], [isC x, Nat.beq l 22, Nat.beq T 46])
    | .iptr yd 0 => match yes with
      | true => some (.tup [], [.box l [.own 2 4], .gone, .arr T 4 (els ++ [chD (gF (meF (toChg x, some (toChg yd))))])], [isC x, isC yd, Nat.beq l 22, Nat.beq T 46, decide (els.length ≤ 1000000), isS (meF (toChg x, some (toChg yd)))])
      | false => some (.tup [], [.box l [.own 1 4], .arr T 4 els], [isC x, isC yd, Nat.beq l 22, Nat.beq T 46, isN (meF (toChg x, some (toChg yd)))])
    | _ => none
  | _, _ => none
/-- what going over both lists gives -/
def metU : Ent := fun a o => match a, o with
  | [.d x, .d y, .clo (.func f) [] [.ptr 0 0, .ptr 1 0]], [.box b [.d (.bool win)], .box l [.d (.lst 0 [] true)]] => bif Nat.beq f 32 then
      some (.d (.int .i64 (meetE (unL x) (unL y))), [.box b [.d (.bool win)], .box l [.own 2 4], .arr 46 4 ((meetO (upF win) (unL x) (unL y)).map chD)], [isL x, isL y]) else none
  | [.d x, .d y, .clo (.func f) [] [.ptr 0 0]], [.box l [.d (.lst 0 [] true)]] => bif Nat.beq f 37 then
      some (.d (.int .i64 (meetE (unL x) (unL y))), [.box l [.own 1 4], .arr 46 4 ((meetO meF (unL x) (unL y)).map chD)], [isL x, isL y]) else none
  | _, _ => none
end Go.Proofs.Ytljfolepmkcjlaa

/-
  slices.Equal of rows, value.Compare, value.CompareRows.
-/
namespace Go.Proofs.Ytljfolepmkcjlaa
open Go.RowKit Plain Am IntWalk
set_option maxRecDepth 100000
set_option linter.unusedVariables false
set_option linter.unusedSimpArgs false

noncomputable abbrev eqC : Code := (Try.f33.body).getD .skip
def eqS (x y : List DV) (i : Nat) : ESt := { n := 26, m := 0, regs := T.mk [(0, .d (.lst 3 x false)), (1, .d (.lst 3 y false)), (12, .d (.int .i64 (x.length : Int))), (13, .d (.int .i64 (i : Int)))], objs := T.mk [] }
noncomputable abbrev cvC : Code := (Try.f79.body).getD .skip
noncomputable abbrev crC : Code := (Try.f62.body).getD .skip
def crS (x y : List DV) (m i : Nat) : ESt := { n := 40, m := 0, regs := T.mk [(0, .d (.lst 3 x false)), (1, .d (.lst 3 y false)), (11, .d (.int .i64 (m : Int))), (12, .d (.int .i64 (i : Int)))], objs := T.mk [] }
theorem at_ex (l : List Val) (i : Nat) : ∃ v, ∀ h : i < l.length, l[i] = v := by
  by_cases h : i < l.length
  · exact ⟨l[i], fun _ => rfl⟩
  · exact ⟨⟨0, 0, []⟩, fun h' => absurd h' h⟩
theorem at_chg (l : List Chg) (i : Nat) : ∃ v, ∀ h : i < l.length, l[i] = v := by
  by_cases h : i < l.length
  · exact ⟨l[i], fun _ => rfl⟩
  · exact ⟨⟨[], [], [], []⟩, fun h' => absurd h' h⟩
theorem lt_map {α β : Type} {f : α → β} {l : List α} {i : Nat} (h : decide ((Nat.cast (R := Int) i) < (Nat.cast (R := Int) (l.map f).length)) = true) : i < l.length := by
  have := of_decide_eq_true h; rw [List.length_map] at this; omega
theorem ge_map {α β : Type} {f : α → β} {l : List α} {i : Nat} (h : decide ((Nat.cast (R := Int) i) < (Nat.cast (R := Int) (l.map f).length)) = false) : l.length ≤ i := by
  have := of_decide_eq_false h; rw [List.length_map] at this; omega
theorem bd_map {α β : Type} {f : α → β} {l : List α} {i : Nat} (h : i < l.length) : decide (0 ≤ (Nat.cast (R := Int) i) ∧ (Nat.cast (R := Int) i) < (Nat.cast (R := Int) (l.map f).length)) = true := by
  refine decide_eq_true ?_; rw [List.length_map]; omega
theorem ov_val {l : List Val} {i : Nat} {v : Val} (h : i < l.length) (hv : l[i] = v) : RVle (.iptr ((l.map vD).getD (Nat.cast (R := Int) i).toNat .nilp) 0) (.iptr (vD v) 0) := .of_eq (by rw [Int.toNat_natCast, getD_val l i h, hv])
theorem ov_chg {l : List Chg} {i : Nat} {v : Chg} (h : i < l.length) (hv : l[i] = v) : RVle (.iptr ((l.map chD).getD (Nat.cast (R := Int) i).toNat .nilp) 0) (.iptr (chD v) 0) := .of_eq (by rw [Int.toNat_natCast, getD_chg l i h, hv])
theorem ov_succ {i : Nat} (h : i ≤ 1000000) : RVle (.d (.int .i64 (IntKind.i64.wrap ((Nat.cast (R := Int) i) + 1)))) (.d (.int .i64 (Nat.cast (R := Int) (i + 1)))) := .of_eq (by rw [wrap_succ h])
theorem neV (v w : Val) : (!(v.1 == w.1 && (v.2 == w.2 && (v.3 == w.3 && true)))) = !decide (v = w) := by
  obtain ⟨k, n, s⟩ := v
  obtain ⟨k2, n2, s2⟩ := w
  congr 1
  apply Bool.eq_iff_iff.2
  simp

theorem eqR_c (a b : List Val) (ha : a.length ≤ 65536) : C Try.prog 33 [.d (rD a), .d (rD b)] [] (fun r o => r = .d (.bool (decide (a = b))) ∧ o = []) := by
  have ok := cfT_ok (l := []) .nil
  refine C_of_run (fn := Try.f33) (body := eqC) true (by kernel_rfl) (by kernel_rfl) (by kernel_rfl) ?_
  have hloop : a.length = b.length → WK Try.prog 0 (stackAt eqC 0) (eqS (a.map vD) (b.map vD) 0).den (Ends (Try.f33.results.toList) (.d (.bool (decide (a = b))))) := by
    intro hlen
    refine WK.rec' (fun i => eqS (a.map vD) (b.map vD) i) (fun i => i ≤ a.length ∧ a.take i = b.take i) (fun i => a.length - i) ?_ 0 ⟨Nat.zero_le _, rfl⟩
    rintro i ⟨hi, ht⟩ ih
    obtain ⟨v, hv⟩ := at_ex a i
    obtain ⟨w, hw⟩ := at_ex b i
    have hb : i < a.length → i < b.length := fun h => by omega
    rcases Bool.eq_false_or_eq_true (decide ((Nat.cast (R := Int) i) < (Nat.cast (R := Int) (a.map vD).length)) : Bool) with h14 | h14
    · skip
      rcases Bool.eq_false_or_eq_true (!(v.1 == w.1 && (v.2 == w.2 && (v.3 == w.3 && true))) : Bool) with h24 | h24
      · skip
        exact WK.fin ok 1000 0 [(18, RV.iptr (DV.agg [DV.int Go.IntKind.u8 v.1, DV.int Go.IntKind.i64 v.2, DV.str v.3]) 0), (22, RV.iptr (DV.agg [DV.int Go.IntKind.u8 w.1, DV.int Go.IntKind.i64 w.2, DV.str w.3]) 0), (25, RV.d (DV.int Go.IntKind.i64 (Nat.cast (R := Int) (i + 1)))), (14, RV.d (DV.bool true)), (24, RV.d (DV.bool true))] [decide (0 ≤ (Nat.cast (R := Int) i) ∧ (Nat.cast (R := Int) i) < (Nat.cast (R := Int) (a.map vD).length)), decide (0 ≤ (Nat.cast (R := Int) i) ∧ (Nat.cast (R := Int) i) < (Nat.cast (R := Int) (b.map vD).length))] [(RV.d (DV.bool (decide ((Nat.cast (R := Int) i) < (Nat.cast (R := Int) (a.map vD).length)))), RV.d (DV.bool true)), (RV.iptr ((a.map vD).getD (Nat.cast (R := Int) i).toNat DV.nilp) 0, RV.iptr (DV.agg [DV.int Go.IntKind.u8 v.1, DV.int Go.IntKind.i64 v.2, DV.str v.3]) 0), (RV.iptr ((b.map vD).getD (Nat.cast (R := Int) i).toNat DV.nilp) 0, RV.iptr (DV.agg [DV.int Go.IntKind.u8 w.1, DV.int Go.IntKind.i64 w.2, DV.str w.3]) 0), (RV.d (DV.bool !(v.1 == w.1 && (v.2 == w.2 && (v.3 == w.3 && true)))), RV.d (DV.bool true))] rfl (by kernel_rfl : runEnd (cfT []) true _ 1000 0 _ _ (eqS (a.map vD) (b.map vD) i) = some (RV.d (DV.bool false), [], _, _)) (by refine ⟨?_, ?_, trivial⟩ <;> (first | exact bd_map (lt_map h14) | exact bd_map (hb (lt_map h14)))) (by refine ⟨le_bool h14, ?_, ?_, le_bool h24, trivial⟩ <;> (first | exact ov_val (lt_map h14) (hv (lt_map h14)) | exact ov_val (hb (lt_map h14)) (hw (hb (lt_map h14))) | exact ov_succ (by omega))) ⟨by first | (congr 2; refine (decide_eq_false ?_).symm; rintro rfl; have e1 := hv (lt_map h14); have e2 := hw (lt_map h14); rw [neV] at h24; simp [← e1, ← e2] at h24; done) | (congr 2; refine (decide_eq_true ?_).symm; have e := ge_map h14; rwa [List.take_of_length_le e, List.take_of_length_le (by omega)] at ht), rfl⟩
      · skip
        refine WK.segA ok 1000 0 [(18, RV.iptr (DV.agg [DV.int Go.IntKind.u8 v.1, DV.int Go.IntKind.i64 v.2, DV.str v.3]) 0), (22, RV.iptr (DV.agg [DV.int Go.IntKind.u8 w.1, DV.int Go.IntKind.i64 w.2, DV.str w.3]) 0), (25, RV.d (DV.int Go.IntKind.i64 (Nat.cast (R := Int) (i + 1)))), (14, RV.d (DV.bool true)), (24, RV.d (DV.bool false))] [] [0, 1, 12, 13] [decide (0 ≤ (Nat.cast (R := Int) i) ∧ (Nat.cast (R := Int) i) < (Nat.cast (R := Int) (a.map vD).length)), decide (0 ≤ (Nat.cast (R := Int) i) ∧ (Nat.cast (R := Int) i) < (Nat.cast (R := Int) (b.map vD).length))] [(RV.d (DV.bool (decide ((Nat.cast (R := Int) i) < (Nat.cast (R := Int) (a.map vD).length)))), RV.d (DV.bool true)), (RV.iptr ((a.map vD).getD (Nat.cast (R := Int) i).toNat DV.nilp) 0, RV.iptr (DV.agg [DV.int Go.IntKind.u8 v.1, DV.int Go.IntKind.i64 v.2, DV.str v.3]) 0), (RV.iptr ((b.map vD).getD (Nat.cast (R := Int) i).toNat DV.nilp) 0, RV.iptr (DV.agg [DV.int Go.IntKind.u8 w.1, DV.int Go.IntKind.i64 w.2, DV.str w.3]) 0), (RV.d (DV.bool !(v.1 == w.1 && (v.2 == w.2 && (v.3 == w.3 && true)))), RV.d (DV.bool false)), (RV.d (DV.int Go.IntKind.i64 (Go.IntKind.i64.wrap ((Nat.cast (R := Int) i) + 1))), RV.d (DV.int Go.IntKind.i64 (Nat.cast (R := Int) (i + 1))))] rfl (by kernel_rfl : runSegA (cfT []) 1000 0 _ _ _ _ (eqS (a.map vD) (b.map vD) i) = some (stackAt eqC 0, eqS (a.map vD) (b.map vD) (i + 1), _, _)) (by refine ⟨?_, ?_, trivial⟩ <;> (first | exact bd_map (lt_map h14) | exact bd_map (hb (lt_map h14)))) (by refine ⟨le_bool h14, ?_, ?_, le_bool h24, ?_, trivial⟩ <;> (first | exact ov_val (lt_map h14) (hv (lt_map h14)) | exact ov_val (hb (lt_map h14)) (hw (hb (lt_map h14))) | exact ov_succ (by omega))) ?_
        have hl := lt_map h14
        refine ih (i + 1) ⟨hl, ?_⟩ (by omega)
        rw [neV] at h24
        have e : v = w := (by simpa using h24)
        rw [List.take_add_one, List.take_add_one, ht, List.getElem?_eq_getElem hl, List.getElem?_eq_getElem (hb hl), hv hl, hw (hb hl), e]
    · skip
      exact WK.fin ok 1000 0 [(18, RV.iptr (DV.agg [DV.int Go.IntKind.u8 v.1, DV.int Go.IntKind.i64 v.2, DV.str v.3]) 0), (22, RV.iptr (DV.agg [DV.int Go.IntKind.u8 w.1, DV.int Go.IntKind.i64 w.2, DV.str w.3]) 0), (25, RV.d (DV.int Go.IntKind.i64 (Nat.cast (R := Int) (i + 1)))), (14, RV.d (DV.bool false))] [] [(RV.d (DV.bool (decide ((Nat.cast (R := Int) i) < (Nat.cast (R := Int) (a.map vD).length)))), RV.d (DV.bool false))] rfl (by kernel_rfl : runEnd (cfT []) true _ 1000 0 _ _ (eqS (a.map vD) (b.map vD) i) = some (RV.d (DV.bool true), [], _, _)) trivial ⟨le_bool h14, trivial⟩ ⟨by first | (congr 2; refine (decide_eq_false ?_).symm; rintro rfl; have e1 := hv (lt_map h14); have e2 := hw (lt_map h14); rw [neV] at h24; simp [← e1, ← e2] at h24; done) | (congr 2; refine (decide_eq_true ?_).symm; have e := ge_map h14; rwa [List.take_of_length_le e, List.take_of_length_le (by omega)] at ht), rfl⟩
  rcases Bool.eq_false_or_eq_true ((Nat.cast (R := Int) (a.map vD).length) != (Nat.cast (R := Int) (b.map vD).length) : Bool) with h10 | h10
  · skip
    exact WK.fin ok 1000 0 [(10, RV.d (DV.bool true))] [] [(RV.d (DV.bool ((Nat.cast (R := Int) (a.map vD).length) != (Nat.cast (R := Int) (b.map vD).length))), RV.d (DV.bool true))] rfl (by kernel_rfl : runEnd (cfT []) true _ 1000 0 _ _ (ini 26 [.d (rD a), .d (rD b)] []) = some (RV.d (DV.bool false), [], _, _)) trivial ⟨le_bool h10, trivial⟩ ⟨by congr 2; refine (decide_eq_false ?_).symm; rintro rfl; simp at h10, rfl⟩
  · skip
    refine WK.segA ok 1000 0 [(10, RV.d (DV.bool false))] [] [0, 1, 12, 13] [] [(RV.d (DV.bool ((Nat.cast (R := Int) (a.map vD).length) != (Nat.cast (R := Int) (b.map vD).length))), RV.d (DV.bool false))] rfl (by kernel_rfl : runSegA (cfT []) 1000 0 _ _ _ _ (ini 26 [.d (rD a), .d (rD b)] []) = some (stackAt eqC 0, eqS (a.map vD) (b.map vD) 0, _, _)) trivial ⟨le_bool h10, trivial⟩ ?_
    have e : (a.length : Int) = b.length := (by simpa using h10)
    exact hloop (by omega)

theorem cv_c (k n : Int) (s : Bs) (k2 n2 : Int) (s2 : Bs) : C Try.prog 79 [.d (vv k n s), .d (vv k2 n2 s2)] [] (fun r o => r = .d (.int .i64 (cmpV ⟨k, n, s⟩ ⟨k2, n2, s2⟩)) ∧ o = []) := by
  have ok := cfT_ok tb_ok
  refine C_of_run (fn := Try.f79) (body := cvC) true (by kernel_rfl) (by kernel_rfl) (by kernel_rfl) ?_
  by_cases hk : k = k2 ∧ (k = 1 ∨ k = 2 ∨ k = 3)
  · obtain ⟨rfl, rfl | rfl | rfl⟩ := hk
    · by_cases hn : n = n2
      · subst hn
        exact WK.fin ok 2000 0 [(27, .d (.bool false)), (41, .d (.bool false))] [] [(.d (.bool (n != n)), .d (.bool false)), (.d (.bool false), .d (.bool false))] rfl (by kernel_rfl : runEnd (cfT tb) true _ 2000 0 _ _ (ini 47 [.d (vv 1 n s), .d (vv 1 n s2)] []) = some (.d (.int .i64 0), [], _, _)) trivial ⟨le_bool (by simp), le_bool rfl, trivial⟩ ⟨by simp [cmpV, cmpI], rfl⟩
      · by_cases hl : n < n2
        · exact WK.fin ok 2000 0 [(27, .d (.bool true)), (32, .d (.bool true))] [] [(.d (.bool (n != n2)), .d (.bool true)), (.d (.bool (decide (n < n2))), .d (.bool true))] rfl (by kernel_rfl : runEnd (cfT tb) true _ 2000 0 _ _ (ini 47 [.d (vv 1 n s), .d (vv 1 n2 s2)] []) = some (.d (.int .i64 (-1)), [], _, _)) trivial ⟨le_bool (by simpa using hn), le_bool (by simpa using hl), trivial⟩ ⟨by simp [cmpV, cmpI, hl], rfl⟩
        · exact WK.fin ok 2000 0 [(27, .d (.bool true)), (32, .d (.bool false))] [] [(.d (.bool (n != n2)), .d (.bool true)), (.d (.bool (decide (n < n2))), .d (.bool false))] rfl (by kernel_rfl : runEnd (cfT tb) true _ 2000 0 _ _ (ini 47 [.d (vv 1 n s), .d (vv 1 n2 s2)] []) = some (.d (.int .i64 1), [], _, _)) trivial ⟨le_bool (by simpa using hn), le_bool (by simpa using hl), trivial⟩ ⟨by simp [cmpV, cmpI, hl]; omega, rfl⟩
    · exact WK.fin ok 2000 0 [] [] [] rfl (by kernel_rfl : runEnd (cfT tb) true _ 2000 0 _ _ (ini 47 [.d (vv 2 n s), .d (vv 2 n2 s2)] []) = some (.d (.int .i64 (cmpS s s2)), [], _, _)) trivial trivial ⟨by simp [cmpV], rfl⟩
    · exact WK.fin ok 2000 0 [(41, .d (.bool true))] [] [(.d (.bool true), .d (.bool true))] rfl (by kernel_rfl : runEnd (cfT tb) true _ 2000 0 _ _ (ini 47 [.d (vv 3 n s), .d (vv 3 n2 s2)] []) = some (.d (.int .i64 (cmpS s s2)), [], _, _)) trivial ⟨le_bool rfl, trivial⟩ ⟨by simp [cmpV], rfl⟩
  · skip
    rcases Bool.eq_false_or_eq_true (decide (k < k2) : Bool) with h10 | h10
    · skip
      exact WK.fin ok 2000 0 [(20, RV.d (DV.bool false)), (36, RV.d (DV.bool false)), (40, RV.d (DV.bool false)), (10, RV.d (DV.bool true))] [] [(RV.d (DV.bool (decide (k < k2))), RV.d (DV.bool true))] rfl (by kernel_rfl : runEnd (cfT tb) true _ 2000 0 _ _ (ini 47 [.d (vv k n s), .d (vv k2 n2 s2)] []) = some (RV.d (DV.int Go.IntKind.i64 (-1)), [], _, _)) trivial ⟨le_bool h10, trivial⟩ ⟨by unfold cmpV; first | (have e1 := of_decide_eq_true h10; simp [e1]; done) | (have e1 := of_decide_eq_false h10; have e2 := of_decide_eq_true h16; simp [e1, e2]; done) | (have e1 := of_decide_eq_false h10; have e2 := of_decide_eq_false h16; have e : k = k2 := (by omega); subst e; rw [if_neg (by simp), if_neg (by simp)]; simp only; rw [if_neg (fun h => hk ⟨rfl, .inl h⟩), if_neg (fun h => hk ⟨rfl, .inr h⟩)]), rfl⟩
    · skip
      rcases Bool.eq_false_or_eq_true (decide (k2 < k) : Bool) with h16 | h16
      · skip
        exact WK.fin ok 2000 0 [(20, RV.d (DV.bool false)), (36, RV.d (DV.bool false)), (40, RV.d (DV.bool false)), (10, RV.d (DV.bool false)), (16, RV.d (DV.bool true))] [] [(RV.d (DV.bool (decide (k < k2))), RV.d (DV.bool false)), (RV.d (DV.bool (decide (k2 < k))), RV.d (DV.bool true))] rfl (by kernel_rfl : runEnd (cfT tb) true _ 2000 0 _ _ (ini 47 [.d (vv k n s), .d (vv k2 n2 s2)] []) = some (RV.d (DV.int Go.IntKind.i64 (1)), [], _, _)) trivial ⟨le_bool h10, le_bool h16, trivial⟩ ⟨by unfold cmpV; first | (have e1 := of_decide_eq_true h10; simp [e1]; done) | (have e1 := of_decide_eq_false h10; have e2 := of_decide_eq_true h16; simp [e1, e2]; done) | (have e1 := of_decide_eq_false h10; have e2 := of_decide_eq_false h16; have e : k = k2 := (by omega); subst e; rw [if_neg (by simp), if_neg (by simp)]; simp only; rw [if_neg (fun h => hk ⟨rfl, .inl h⟩), if_neg (fun h => hk ⟨rfl, .inr h⟩)]), rfl⟩
      · skip
        exact WK.fin ok 2000 0 [(20, RV.d (DV.bool false)), (36, RV.d (DV.bool false)), (40, RV.d (DV.bool false)), (10, RV.d (DV.bool false)), (16, RV.d (DV.bool false))] [] [(RV.d (DV.bool (decide (k < k2))), RV.d (DV.bool false)), (RV.d (DV.bool (decide (k2 < k))), RV.d (DV.bool false)), (RV.d (DV.bool (k == 1)), RV.d (DV.bool false)), (RV.d (DV.bool (k == 2)), RV.d (DV.bool false)), (RV.d (DV.bool (k == 3)), RV.d (DV.bool false))] rfl (by kernel_rfl : runEnd (cfT tb) true _ 2000 0 _ _ (ini 47 [.d (vv k n s), .d (vv k2 n2 s2)] []) = some (RV.d (DV.int Go.IntKind.i64 (0)), [], _, _)) trivial (by refine ⟨le_bool h10, le_bool h16, ?_, ?_, ?_, trivial⟩ <;> (first | exact le_bool (by have e1 := of_decide_eq_false h10; have e2 := of_decide_eq_false h16; apply beq_eq_false_iff_ne.2; rintro rfl; exact hk ⟨by omega, by simp⟩))) ⟨by unfold cmpV; first | (have e1 := of_decide_eq_true h10; simp [e1]; done) | (have e1 := of_decide_eq_false h10; have e2 := of_decide_eq_true h16; simp [e1, e2]; done) | (have e1 := of_decide_eq_false h10; have e2 := of_decide_eq_false h16; have e : k = k2 := (by omega); subst e; rw [if_neg (by simp), if_neg (by simp)]; simp only; rw [if_neg (fun h => hk ⟨rfl, .inl h⟩), if_neg (fun h => hk ⟨rfl, .inr h⟩)]), rfl⟩
theorem cv_ent : EntOk Try.prog 79 (e2 cvG) := by
  refine e2_ok fun x x2 y c hg hc => ?_
  unfold cvG at hg
  split at hg
  · simp only [Option.some.injEq, Prod.mk.injEq] at hg
    obtain ⟨rfl, rfl⟩ := hg
    exact cv_c _ _ _ _ _ _
  · cases hg
noncomputable def t1 : List (Nat × Ent) := [(79, e2 cvG)]
theorem t1_ok : EntsOk Try.prog t1 := .cons cv_ent .nil

theorem cmpR_drop {a b : List Val} {i : Nat} (ha : i < a.length) (hb : i < b.length) : cmpR (a.drop i) (b.drop i) = if cmpV a[i] b[i] = 0 then cmpR (a.drop (i + 1)) (b.drop (i + 1)) else cmpV a[i] b[i] := by
  rw [List.drop_eq_getElem_cons ha, List.drop_eq_getElem_cons hb]; rfl
theorem cmpR_end {a b : List Val} {i : Nat} (h : a.length ≤ i ∨ b.length ≤ i) (ha : i ≤ a.length) (hb : i ≤ b.length) : cmpR (a.drop i) (b.drop i) = cmpI a.length b.length := by
  unfold cmpI
  rcases h with h | h
  · rw [List.drop_eq_nil_of_le h]
    by_cases h2 : b.length ≤ i
    · rw [List.drop_eq_nil_of_le h2, if_neg (by omega), if_neg (by omega)]; rfl
    · rw [List.drop_eq_getElem_cons (by omega), if_pos (by omega)]; rfl
  · rw [List.drop_eq_nil_of_le h]
    by_cases h2 : a.length ≤ i
    · rw [List.drop_eq_nil_of_le h2, if_neg (by omega), if_neg (by omega)]; rfl
    · rw [List.drop_eq_getElem_cons (by omega), if_neg (by omega), if_pos (by omega)]; rfl
theorem cr_c (a b : List Val) (ha : a.length ≤ 65536) : C Try.prog 62 [.d (rD a), .d (rD b)] [] (fun r o => r = .d (.int .i64 (cmpR a b)) ∧ o = []) := by
  have ok := cfT_ok t1_ok
  refine C_of_run (fn := Try.f62) (body := crC) true (by kernel_rfl) (by kernel_rfl) (by kernel_rfl) ?_
  obtain ⟨m, hm⟩ : ∃ m, min a.length b.length = m := ⟨_, rfl⟩
  have hloop : WK Try.prog 0 (stackAt crC 0) (crS (a.map vD) (b.map vD) m 0).den (Ends (Try.f62.results.toList) (.d (.int .i64 (cmpR a b)))) := by
    refine WK.rec' (fun i => crS (a.map vD) (b.map vD) m i) (fun i => i ≤ m ∧ cmpR (a.drop i) (b.drop i) = cmpR a b) (fun i => m - i) ?_ 0 ⟨Nat.zero_le _, rfl⟩
    rintro i ⟨hi, ht⟩ ih
    obtain ⟨v, hv⟩ := at_ex a i
    obtain ⟨w, hw⟩ := at_ex b i
    have hlt : decide ((Nat.cast (R := Int) i) < (Nat.cast (R := Int) m)) = true → i < a.length ∧ i < b.length := fun h => by have := of_decide_eq_true h; omega
    have hstep : decide ((Nat.cast (R := Int) i) < (Nat.cast (R := Int) m)) = true → (if cmpV v w = 0 then cmpR (a.drop (i + 1)) (b.drop (i + 1)) else cmpV v w) = cmpR a b := fun h => by
      rw [← ht, cmpR_drop (hlt h).1 (hlt h).2, hv (hlt h).1, hw (hlt h).2]
    have hend : decide ((Nat.cast (R := Int) i) < (Nat.cast (R := Int) m)) = false → cmpI a.length b.length = cmpR a b := fun h => by
      have := of_decide_eq_false h
      rw [← ht, cmpR_end (by omega) (by omega) (by omega)]
    have hla : (Nat.cast (R := Int) (a.map vD).length) = (Nat.cast (R := Int) a.length) := by rw [List.length_map]
    have hlb : (Nat.cast (R := Int) (b.map vD).length) = (Nat.cast (R := Int) b.length) := by rw [List.length_map]
    rcases Bool.eq_false_or_eq_true (decide ((Nat.cast (R := Int) i) < (Nat.cast (R := Int) m)) : Bool) with h13 | h13
    · skip
      rcases Bool.eq_false_or_eq_true (Plain.cmpV { k := v.1, n := v.2, s := v.3 } { k := w.1, n := w.2, s := w.3 } != 0 : Bool) with h25 | h25
      · skip
        exact WK.fin ok 1000 0 [(17, RV.iptr (DV.agg [DV.int Go.IntKind.u8 v.1, DV.int Go.IntKind.i64 v.2, DV.str v.3]) 0), (21, RV.iptr (DV.agg [DV.int Go.IntKind.u8 w.1, DV.int Go.IntKind.i64 w.2, DV.str w.3]) 0), (27, RV.d (DV.int Go.IntKind.i64 (Nat.cast (R := Int) (i + 1)))), (13, RV.d (DV.bool true)), (25, RV.d (DV.bool true))] [decide (0 ≤ (Nat.cast (R := Int) i) ∧ (Nat.cast (R := Int) i) < (Nat.cast (R := Int) (a.map vD).length)), decide (0 ≤ (Nat.cast (R := Int) i) ∧ (Nat.cast (R := Int) i) < (Nat.cast (R := Int) (b.map vD).length))] [(RV.d (DV.bool (decide ((Nat.cast (R := Int) i) < (Nat.cast (R := Int) m)))), RV.d (DV.bool true)), (RV.iptr ((a.map vD).getD (Nat.cast (R := Int) i).toNat DV.nilp) 0, RV.iptr (DV.agg [DV.int Go.IntKind.u8 v.1, DV.int Go.IntKind.i64 v.2, DV.str v.3]) 0), (RV.iptr ((b.map vD).getD (Nat.cast (R := Int) i).toNat DV.nilp) 0, RV.iptr (DV.agg [DV.int Go.IntKind.u8 w.1, DV.int Go.IntKind.i64 w.2, DV.str w.3]) 0), (RV.d (DV.bool (Plain.cmpV { k := v.1, n := v.2, s := v.3 } { k := w.1, n := w.2, s := w.3 } != 0)), RV.d (DV.bool true))] rfl (by kernel_rfl : runEnd (cfT t1) true _ 1000 0 _ _ (crS (a.map vD) (b.map vD) m i) = some (RV.d (DV.int Go.IntKind.i64 (Plain.cmpV { k := v.1, n := v.2, s := v.3 } { k := w.1, n := w.2, s := w.3 })), [], _, _)) (by refine ⟨?_, ?_, trivial⟩ <;> (first | exact bd_map (hlt h13).1 | exact bd_map (hlt h13).2)) (by refine ⟨le_bool h13, ?_, ?_, le_bool h25, trivial⟩ <;> (first | exact ov_val (hlt h13).1 (hv (hlt h13).1) | exact ov_val (hlt h13).2 (hw (hlt h13).2) | exact ov_succ (by omega))) ⟨by congr 2; first | (have e := hstep h13; have e2 : cmpV v w ≠ 0 := (by simpa using h25); rw [if_neg e2] at e; exact e) | (have e := hend h13; rw [hla, hlb] at h33; unfold cmpI at e; rw [← e]; first | (rw [if_pos (of_decide_eq_true h33)]; done) | (rw [hla, hlb] at h39; rw [if_neg (of_decide_eq_false h33), if_pos (of_decide_eq_true h39)]; done) | (rw [hla, hlb] at h39; rw [if_neg (of_decide_eq_false h33), if_neg (of_decide_eq_false h39)])), rfl⟩
      · skip
        refine WK.segA ok 1000 0 [(17, RV.iptr (DV.agg [DV.int Go.IntKind.u8 v.1, DV.int Go.IntKind.i64 v.2, DV.str v.3]) 0), (21, RV.iptr (DV.agg [DV.int Go.IntKind.u8 w.1, DV.int Go.IntKind.i64 w.2, DV.str w.3]) 0), (27, RV.d (DV.int Go.IntKind.i64 (Nat.cast (R := Int) (i + 1)))), (13, RV.d (DV.bool true)), (25, RV.d (DV.bool false))] [] [0, 1, 11, 12] [decide (0 ≤ (Nat.cast (R := Int) i) ∧ (Nat.cast (R := Int) i) < (Nat.cast (R := Int) (a.map vD).length)), decide (0 ≤ (Nat.cast (R := Int) i) ∧ (Nat.cast (R := Int) i) < (Nat.cast (R := Int) (b.map vD).length))] [(RV.d (DV.bool (decide ((Nat.cast (R := Int) i) < (Nat.cast (R := Int) m)))), RV.d (DV.bool true)), (RV.iptr ((a.map vD).getD (Nat.cast (R := Int) i).toNat DV.nilp) 0, RV.iptr (DV.agg [DV.int Go.IntKind.u8 v.1, DV.int Go.IntKind.i64 v.2, DV.str v.3]) 0), (RV.iptr ((b.map vD).getD (Nat.cast (R := Int) i).toNat DV.nilp) 0, RV.iptr (DV.agg [DV.int Go.IntKind.u8 w.1, DV.int Go.IntKind.i64 w.2, DV.str w.3]) 0), (RV.d (DV.bool (Plain.cmpV { k := v.1, n := v.2, s := v.3 } { k := w.1, n := w.2, s := w.3 } != 0)), RV.d (DV.bool false)), (RV.d (DV.int Go.IntKind.i64 (Go.IntKind.i64.wrap ((Nat.cast (R := Int) i) + 1))), RV.d (DV.int Go.IntKind.i64 (Nat.cast (R := Int) (i + 1))))] rfl (by kernel_rfl : runSegA (cfT t1) 1000 0 _ _ _ _ (crS (a.map vD) (b.map vD) m i) = some (stackAt crC 0, crS (a.map vD) (b.map vD) m (i + 1), _, _)) (by refine ⟨?_, ?_, trivial⟩ <;> (first | exact bd_map (hlt h13).1 | exact bd_map (hlt h13).2)) (by refine ⟨le_bool h13, ?_, ?_, le_bool h25, ?_, trivial⟩ <;> (first | exact ov_val (hlt h13).1 (hv (hlt h13).1) | exact ov_val (hlt h13).2 (hw (hlt h13).2) | exact ov_succ (by omega))) ?_
        refine ih (i + 1) ⟨by have := of_decide_eq_true h13; omega, ?_⟩ (by have := of_decide_eq_true h13; omega)
        have e := hstep h13
        have e2 : cmpV v w = 0 := (by simpa using h25)
        rwa [if_pos e2] at e
    · skip
      rcases Bool.eq_false_or_eq_true (decide ((Nat.cast (R := Int) (a.map vD).length) < (Nat.cast (R := Int) (b.map vD).length)) : Bool) with h33 | h33
      · skip
        exact WK.fin ok 1000 0 [(17, RV.iptr (DV.agg [DV.int Go.IntKind.u8 v.1, DV.int Go.IntKind.i64 v.2, DV.str v.3]) 0), (21, RV.iptr (DV.agg [DV.int Go.IntKind.u8 w.1, DV.int Go.IntKind.i64 w.2, DV.str w.3]) 0), (27, RV.d (DV.int Go.IntKind.i64 (Nat.cast (R := Int) (i + 1)))), (13, RV.d (DV.bool false)), (33, RV.d (DV.bool true))] [] [(RV.d (DV.bool (decide ((Nat.cast (R := Int) i) < (Nat.cast (R := Int) m)))), RV.d (DV.bool false)), (RV.d (DV.bool (decide ((Nat.cast (R := Int) (a.map vD).length) < (Nat.cast (R := Int) (b.map vD).length)))), RV.d (DV.bool true))] rfl (by kernel_rfl : runEnd (cfT t1) true _ 1000 0 _ _ (crS (a.map vD) (b.map vD) m i) = some (RV.d (DV.int Go.IntKind.i64 (-1)), [], _, _)) trivial ⟨le_bool h13, le_bool h33, trivial⟩ ⟨by congr 2; first | (have e := hstep h13; have e2 : cmpV v w ≠ 0 := (by simpa using h25); rw [if_neg e2] at e; exact e) | (have e := hend h13; rw [hla, hlb] at h33; unfold cmpI at e; rw [← e]; first | (rw [if_pos (of_decide_eq_true h33)]; done) | (rw [hla, hlb] at h39; rw [if_neg (of_decide_eq_false h33), if_pos (of_decide_eq_true h39)]; done) | (rw [hla, hlb] at h39; rw [if_neg (of_decide_eq_false h33), if_neg (of_decide_eq_false h39)])), rfl⟩
      · skip
        rcases Bool.eq_false_or_eq_true (decide ((Nat.cast (R := Int) (b.map vD).length) < (Nat.cast (R := Int) (a.map vD).length)) : Bool) with h39 | h39
        · skip
          exact WK.fin ok 1000 0 [(17, RV.iptr (DV.agg [DV.int Go.IntKind.u8 v.1, DV.int Go.IntKind.i64 v.2, DV.str v.3]) 0), (21, RV.iptr (DV.agg [DV.int Go.IntKind.u8 w.1, DV.int Go.IntKind.i64 w.2, DV.str w.3]) 0), (27, RV.d (DV.int Go.IntKind.i64 (Nat.cast (R := Int) (i + 1)))), (13, RV.d (DV.bool false)), (33, RV.d (DV.bool false)), (39, RV.d (DV.bool true))] [] [(RV.d (DV.bool (decide ((Nat.cast (R := Int) i) < (Nat.cast (R := Int) m)))), RV.d (DV.bool false)), (RV.d (DV.bool (decide ((Nat.cast (R := Int) (a.map vD).length) < (Nat.cast (R := Int) (b.map vD).length)))), RV.d (DV.bool false)), (RV.d (DV.bool (decide ((Nat.cast (R := Int) (b.map vD).length) < (Nat.cast (R := Int) (a.map vD).length)))), RV.d (DV.bool true))] rfl (by kernel_rfl : runEnd (cfT t1) true _ 1000 0 _ _ (crS (a.map vD) (b.map vD) m i) = some (RV.d (DV.int Go.IntKind.i64 (1)), [], _, _)) trivial ⟨le_bool h13, le_bool h33, le_bool h39, trivial⟩ ⟨by congr 2; first | (have e := hstep h13; have e2 : cmpV v w ≠ 0 := (by simpa using h25); rw [if_neg e2] at e; exact e) | (have e := hend h13; rw [hla, hlb] at h33; unfold cmpI at e; rw [← e]; first | (rw [if_pos (of_decide_eq_true h33)]; done) | (rw [hla, hlb] at h39; rw [if_neg (of_decide_eq_false h33), if_pos (of_decide_eq_true h39)]; done) | (rw [hla, hlb] at h39; rw [if_neg (of_decide_eq_false h33), if_neg (of_decide_eq_false h39)])), rfl⟩
        · skip
          exact WK.fin ok 1000 0 [(17, RV.iptr (DV.agg [DV.int Go.IntKind.u8 v.1, DV.int Go.IntKind.i64 v.2, DV.str v.3]) 0), (21, RV.iptr (DV.agg [DV.int Go.IntKind.u8 w.1, DV.int Go.IntKind.i64 w.2, DV.str w.3]) 0), (27, RV.d (DV.int Go.IntKind.i64 (Nat.cast (R := Int) (i + 1)))), (13, RV.d (DV.bool false)), (33, RV.d (DV.bool false)), (39, RV.d (DV.bool false))] [] [(RV.d (DV.bool (decide ((Nat.cast (R := Int) i) < (Nat.cast (R := Int) m)))), RV.d (DV.bool false)), (RV.d (DV.bool (decide ((Nat.cast (R := Int) (a.map vD).length) < (Nat.cast (R := Int) (b.map vD).length)))), RV.d (DV.bool false)), (RV.d (DV.bool (decide ((Nat.cast (R := Int) (b.map vD).length) < (Nat.cast (R := Int) (a.map vD).length)))), RV.d (DV.bool false))] rfl (by kernel_rfl : runEnd (cfT t1) true _ 1000 0 _ _ (crS (a.map vD) (b.map vD) m i) = some (RV.d (DV.int Go.IntKind.i64 (0)), [], _, _)) trivial ⟨le_bool h13, le_bool h33, le_bool h39, trivial⟩ ⟨by congr 2; first | (have e := hstep h13; have e2 : cmpV v w ≠ 0 := (by simpa using h25); rw [if_neg e2] at e; exact e) | (have e := hend h13; rw [hla, hlb] at h33; unfold cmpI at e; rw [← e]; first | (rw [if_pos (of_decide_eq_true h33)]; done) | (rw [hla, hlb] at h39; rw [if_neg (of_decide_eq_false h33), if_pos (of_decide_eq_true h39)]; done) | (rw [hla, hlb] at h39; rw [if_neg (of_decide_eq_false h33), if_neg (of_decide_eq_false h39)])), rfl⟩
  refine WK.segA ok 1000 0 [(11, RV.d (DV.int Go.IntKind.i64 (Nat.cast (R := Int) m)))] [] [0, 1, 11, 12] [] [(RV.d (DV.int Go.IntKind.i64 (if (Nat.cast (R := Int) (b.map vD).length) < (Nat.cast (R := Int) (a.map vD).length) then (Nat.cast (R := Int) (b.map vD).length) else (Nat.cast (R := Int) (a.map vD).length))), RV.d (DV.int Go.IntKind.i64 (Nat.cast (R := Int) m)))] rfl (by kernel_rfl : runSegA (cfT t1) 1000 0 _ _ _ _ (ini 40 [.d (rD a), .d (rD b)] []) = some (stackAt crC 0, crS (a.map vD) (b.map vD) m 0, _, _)) trivial ⟨(by (refine .of_eq ?_; congr 2; simp only [List.length_map]; split <;> omega)), trivial⟩ ?_
  exact hloop
end Go.Proofs.Ytljfolepmkcjlaa

/-
  change.compare, change.may, change.Check, rebase.order.
-/
namespace Go.Proofs.Ytljfolepmkcjlaa
open Go.RowKit Plain Am IntWalk
set_option maxRecDepth 100000
set_option linter.unusedVariables false
set_option linter.unusedSimpArgs false

noncomputable abbrev bodyOf (f : Func) : Code := f.body.getD .skip
noncomputable abbrev mcC : Code := bodyOf Try.f39
noncomputable abbrev roC : Code := bodyOf Try.f59
noncomputable abbrev myC : Code := bodyOf Try.f38
def myS (c : Chg) (j : Int) : ESt := { n := 48, m := 0, regs := T.mk [(36, .d (.agg [rD c.k, rD c.o, rD c.n])), (37, .d (.int .i64 j))], objs := T.mk [] }
noncomputable abbrev ckC : Code := bodyOf Try.f17
def ckS (l : List DV) (i : Nat) : ESt := { n := 33, m := 0, regs := T.mk [(0, .d (.lst 4 l false)), (8, .d (.lst 4 l false)), (9, .d (.int .i64 (l.length : Int))), (10, .d (.int .i64 (i : Int)))], objs := T.mk [] }
noncomputable abbrev nuC : Code := bodyOf Try.f97
noncomputable abbrev txC : Code := bodyOf Try.f98
def txS (s t : Bs) (i : Nat) : ESt := { n := 39, m := 0, regs := T.mk [(0, .d (.str s)), (1, .d (.str t)), (5, .d (.int .i64 (i : Int)))], objs := T.mk [] }
noncomputable abbrev rvC : Code := bodyOf Try.f83
noncomputable abbrev rrC : Code := bodyOf Try.f84
def rrS (x y : List DV) (i : Nat) : ESt := { n := 36, m := 0, regs := T.mk [(0, .d (.lst 3 x false)), (1, .d (.lst 3 y false)), (5, .d (.int .i64 (i : Int)))], objs := T.mk [] }
noncomputable abbrev rcC : Code := bodyOf Try.f70
noncomputable abbrev rowC : Code := bodyOf Try.f69
noncomputable abbrev maC : Code := bodyOf Try.f49
def maS (l : List DV) (i : Nat) : ESt := { n := 73, m := 0, regs := T.mk [(0, .d (.lst 4 l false)), (3, .d (.int .i64 (i : Int)))], objs := T.mk [] }
noncomputable abbrev atC' : Code := bodyOf Try.f35
def atS (x : Chg) (l : List DV) (i : Nat) : ESt := { n := 31, m := 0, regs := T.mk [(1, .d (.lst 4 l false)), (2, .ptr 200 0), (5, .d (.int .i64 (i : Int)))], objs := T.mk [(200, .box 46 [.d (.str x.t), .d (rD x.k), .d (rD x.o), .d (rD x.n)])] }
noncomputable abbrev reC : Code := bodyOf Try.f34
def reS (x y : List DV) (i : Nat) : ESt := { n := 43, m := 0, regs := T.mk [(0, .d (.lst 4 x false)), (1, .d (.lst 4 y false)), (5, .d (.int .i64 (i : Int)))], objs := T.mk [] }
noncomputable abbrev ruC : Code := bodyOf Try.f13
def ruS (x y : List DV) (win : Bool) (out : List DV) (i : Nat) : ESt := { n := 68, m := 0, regs := T.mk [(0, .d (.lst 4 x false)), (1, .d (.lst 4 y false)), (2, .d (.bool win)), (9, .own 200 4), (10, .d (.int .i64 (i : Int)))], objs := T.mk [(200, .arr 46 4 out)] }
noncomputable abbrev rmC : Code := bodyOf Try.f15
def rmS (x y : List DV) (out : List DV) (i : Nat) : ESt := { n := 52, m := 0, regs := T.mk [(0, .d (.lst 4 x false)), (1, .d (.lst 4 y false)), (7, .own 200 4), (8, .d (.int .i64 (i : Int)))], objs := T.mk [(200, .arr 46 4 out)] }
noncomputable abbrev saC : Code := bodyOf Try.f16
def saS (x y : List DV) (i : Nat) : ESt := { n := 70, m := 0, regs := T.mk [(0, .d (.lst 4 x false)), (1, .d (.lst 4 y false)), (5, .d (.int .i64 (i : Int)))], objs := T.mk [] }

theorem eqG_ent {f : Nat} (h : ∀ a b : List Val, a.length ≤ 65536 → b.length ≤ 65536 → (∀ v ∈ a, v.wf) → (∀ v ∈ b, v.wf) → C Try.prog f [.d (rD a), .d (rD b)] [] (fun r o => r = .d (.bool (decide (a = b))) ∧ o = [])) : EntOk Try.prog f (e2 eqG) := by
  refine e2_ok fun x x2 y c hg hc => ?_
  simp only [eqG, Option.some.injEq, Prod.mk.injEq] at hg
  obtain ⟨rfl, rfl⟩ := hg
  obtain ⟨a, rfl, wa, la⟩ := isR_spec (hc (isR x) (by simp))
  obtain ⟨b, rfl, wb, lb⟩ := isR_spec (hc (isR x2) (by simp))
  rw [unR_rD, unR_rD]
  exact h a b la lb wa wb
theorem eq_ent : EntOk Try.prog 33 (e2 eqG) := eqG_ent fun a b la _ _ _ => eqR_c a b la
theorem same08_ent : EntOk Try.prog 36 (e2 eqG) := eqG_ent fun a b la lb wa wb => by
  have := same_ent [.d (rD a), .d (rD b)] [] _ _ _ rfl (by
    intro b' hb
    simp only [List.mem_cons, List.not_mem_nil, or_false] at hb
    rcases hb with rfl | rfl
    · exact okRow_map la wa
    · exact okRow_map lb wb)
  rw [toRow_map, toRow_map] at this
  exact this
theorem crG_ent : EntOk Try.prog 62 (e2 crG) := by
  refine e2_ok fun x x2 y c hg hc => ?_
  simp only [crG, Option.some.injEq, Prod.mk.injEq] at hg
  obtain ⟨rfl, rfl⟩ := hg
  obtain ⟨a, rfl, wa, la⟩ := isR_spec (hc (isR x) (by simp))
  obtain ⟨b, rfl, wb, lb⟩ := isR_spec (hc (isR x2) (by simp))
  rw [unR_rD, unR_rD]
  exact cr_c a b la
noncomputable def t2 : List (Nat × Ent) := [(33, e2 eqG), (36, e2 eqG), (62, e2 crG), (61, e2 cmpE), (55, e1 (gRow putD fun _ => true))]
theorem t2_ok : EntsOk Try.prog t2 := .cons eq_ent (.cons same08_ent (.cons crG_ent (.cons cmp_ent (.cons put_ent .nil))))
theorem same_c (a b : List Val) (ha : a.length ≤ 65536) (hb : b.length ≤ 65536) (wa : ∀ v ∈ a, v.wf) (wb : ∀ v ∈ b, v.wf) : C Try.prog 60 [.d (rD a), .d (rD b)] [] (fun r o => r = .d (.bool (decide (a = b))) ∧ o = []) := by
  have ok := cfT_ok t2_ok
  refine C_of_run (fn := Try.f60) (body := bodyOf Try.f60) true (by kernel_rfl) (by kernel_rfl) (by kernel_rfl) ?_
  exact WK.fin ok 1000 0 [] [isR (rD a), isR (rD b)] [] rfl (by kernel_rfl : runEnd (cfT t2) true _ 1000 0 _ _ (ini 8 [.d (rD a), .d (rD b)] []) = some (.d (.bool (decide (unR (rD a) = unR (rD b)))), [], _, _)) ⟨isR_rD ha wa, isR_rD hb wb, trivial⟩ trivial ⟨by rw [unR_rD, unR_rD], rfl⟩

theorem ov_S (a b : Bs) : RVle (.d (.int .i64 (Go.Lib.compareBytes a b))) (.d (.int .i64 (cmpS a b))) := .of_eq rfl
theorem ov_R (a b : List Val) : RVle (.d (.int .i64 (cmpR (unR (rD a)) (unR (rD b))))) (.d (.int .i64 (cmpR a b))) := .of_eq (by rw [unR_rD, unR_rD])
theorem ov_E (a b : List Val) : RVle (.d (.bool (decide (unR (rD a) = unR (rD b))))) (.d (.bool (decide (a = b)))) := .of_eq (by rw [unR_rD, unR_rD])
theorem ov_C (a b : Chg) : RVle (.d (.int .i64 (cmpC (toChg (chD a)) (toChg (chD b))))) (.d (.int .i64 (cmpC a b))) := .of_eq (by rw [toChg_chD, toChg_chD])
theorem ov_M {a : Chg} {b : Bool} (h : mayC a = b) : RVle (.d (.bool (mayC (toChg (chD a))))) (.d (.bool b)) := .of_eq (by rw [toChg_chD, h])
theorem ok_k {c : Chg} (h : Chg.ok c) : isR (rD c.k) = true := isR_rD h.2.1 h.1.1
theorem ok_o {c : Chg} (h : Chg.ok c) : isR (rD c.o) = true := isR_rD h.2.2.1 h.1.2.1
theorem ok_n {c : Chg} (h : Chg.ok c) : isR (rD c.n) = true := isR_rD h.2.2.2 h.1.2.2

theorem ccG_ent {f : Nat} (h : ∀ a b : Chg, Chg.ok a → Chg.ok b → C Try.prog f [.d (chD a), .d (chD b)] [] (fun r o => r = .d (.int .i64 (cmpC a b)) ∧ o = [])) : EntOk Try.prog f (e2 ccG) := by
  refine e2_ok fun x x2 y c hg hc => ?_
  simp only [ccG, Option.some.injEq, Prod.mk.injEq] at hg
  obtain ⟨rfl, rfl⟩ := hg
  obtain ⟨a, rfl, wa⟩ := isC_spec (hc (isC x) (by simp))
  obtain ⟨b, rfl, wb⟩ := isC_spec (hc (isC x2) (by simp))
  rw [toChg_chD, toChg_chD]
  exact h a b wa wb
theorem mc_c (a b : Chg) (ha : Chg.ok a) (hb : Chg.ok b) : C Try.prog 39 [.d (chD a), .d (chD b)] [] (fun r o => r = .d (.int .i64 (cmpC a b)) ∧ o = []) := by
  have ok := cfT_ok t2_ok
  refine C_of_run (fn := Try.f39) (body := mcC) true (by kernel_rfl) (by kernel_rfl) (by kernel_rfl) ?_
  rcases Bool.eq_false_or_eq_true (Plain.cmpS a.1 b.1 != 0 : Bool) with h12 | h12
  · skip
    exact WK.fin ok 1000 0 [(10, RV.d (DV.int Go.IntKind.i64 (Plain.cmpS a.1 b.1))), (18, RV.d (DV.int Go.IntKind.i64 (Plain.cmpR a.2 b.2))), (12, RV.d (DV.bool true))] [] [(RV.d (DV.int Go.IntKind.i64 (Go.Lib.compareBytes a.1 b.1)), RV.d (DV.int Go.IntKind.i64 (Plain.cmpS a.1 b.1))), (RV.d (DV.bool (Plain.cmpS a.1 b.1 != 0)), RV.d (DV.bool true))] rfl (by kernel_rfl : runEnd (cfT t2) true _ 1000 0 _ _ (ini 19 [.d (chD a), .d (chD b)] []) = some (RV.d (DV.int Go.IntKind.i64 (Plain.cmpS a.1 b.1)), [], _, _)) trivial ⟨(by first | exact ov_S _ _ | exact ov_R a.k b.k), le_bool h12, trivial⟩ ⟨by unfold cmpC; first | rw [if_neg (by simpa using h12)] | rw [if_pos (by simpa using h12)], rfl⟩
  · skip
    exact WK.fin ok 1000 0 [(10, RV.d (DV.int Go.IntKind.i64 (Plain.cmpS a.1 b.1))), (18, RV.d (DV.int Go.IntKind.i64 (Plain.cmpR a.2 b.2))), (12, RV.d (DV.bool false))] [isR (DV.lst 3 (List.map vD a.2) false), isR (DV.lst 3 (List.map vD b.2) false)] [(RV.d (DV.int Go.IntKind.i64 (Go.Lib.compareBytes a.1 b.1)), RV.d (DV.int Go.IntKind.i64 (Plain.cmpS a.1 b.1))), (RV.d (DV.bool (Plain.cmpS a.1 b.1 != 0)), RV.d (DV.bool false)), (RV.d (DV.int Go.IntKind.i64 (Plain.cmpR (unR (rD a.k)) (unR (rD b.k)))), RV.d (DV.int Go.IntKind.i64 (Plain.cmpR a.2 b.2)))] rfl (by kernel_rfl : runEnd (cfT t2) true _ 1000 0 _ _ (ini 19 [.d (chD a), .d (chD b)] []) = some (RV.d (DV.int Go.IntKind.i64 (Plain.cmpR a.2 b.2)), [], _, _)) (by refine ⟨?_, ?_, trivial⟩ <;> (first | exact ok_k ha | exact ok_k hb)) (by refine ⟨?_, le_bool h12, ?_, trivial⟩ <;> (first | exact ov_S _ _ | exact ov_R a.k b.k)) ⟨by unfold cmpC; first | rw [if_neg (by simpa using h12)] | rw [if_pos (by simpa using h12)], rfl⟩
theorem ro_c (a b : Chg) (ha : Chg.ok a) (hb : Chg.ok b) : C Try.prog 59 [.d (chD a), .d (chD b)] [] (fun r o => r = .d (.int .i64 (cmpC a b)) ∧ o = []) := by
  have ok := cfT_ok t2_ok
  refine C_of_run (fn := Try.f59) (body := roC) true (by kernel_rfl) (by kernel_rfl) (by kernel_rfl) ?_
  rcases Bool.eq_false_or_eq_true (Plain.cmpS a.1 b.1 != 0 : Bool) with h12 | h12
  · skip
    exact WK.fin ok 1000 0 [(10, RV.d (DV.int Go.IntKind.i64 (Plain.cmpS a.1 b.1))), (18, RV.d (DV.int Go.IntKind.i64 (Plain.cmpR a.2 b.2))), (12, RV.d (DV.bool true))] [] [(RV.d (DV.int Go.IntKind.i64 (Go.Lib.compareBytes a.1 b.1)), RV.d (DV.int Go.IntKind.i64 (Plain.cmpS a.1 b.1))), (RV.d (DV.bool (Plain.cmpS a.1 b.1 != 0)), RV.d (DV.bool true))] rfl (by kernel_rfl : runEnd (cfT t2) true _ 1000 0 _ _ (ini 19 [.d (chD a), .d (chD b)] []) = some (RV.d (DV.int Go.IntKind.i64 (Plain.cmpS a.1 b.1)), [], _, _)) trivial ⟨(by first | exact ov_S _ _ | exact ov_R a.k b.k), le_bool h12, trivial⟩ ⟨by unfold cmpC; first | rw [if_neg (by simpa using h12)] | rw [if_pos (by simpa using h12)], rfl⟩
  · skip
    exact WK.fin ok 1000 0 [(10, RV.d (DV.int Go.IntKind.i64 (Plain.cmpS a.1 b.1))), (18, RV.d (DV.int Go.IntKind.i64 (Plain.cmpR a.2 b.2))), (12, RV.d (DV.bool false))] [isR (DV.lst 3 (List.map vD a.2) false), isR (DV.lst 3 (List.map vD b.2) false)] [(RV.d (DV.int Go.IntKind.i64 (Go.Lib.compareBytes a.1 b.1)), RV.d (DV.int Go.IntKind.i64 (Plain.cmpS a.1 b.1))), (RV.d (DV.bool (Plain.cmpS a.1 b.1 != 0)), RV.d (DV.bool false)), (RV.d (DV.int Go.IntKind.i64 (Plain.cmpR (unR (rD a.k)) (unR (rD b.k)))), RV.d (DV.int Go.IntKind.i64 (Plain.cmpR a.2 b.2)))] rfl (by kernel_rfl : runEnd (cfT t2) true _ 1000 0 _ _ (ini 19 [.d (chD a), .d (chD b)] []) = some (RV.d (DV.int Go.IntKind.i64 (Plain.cmpR a.2 b.2)), [], _, _)) (by refine ⟨?_, ?_, trivial⟩ <;> (first | exact ok_k ha | exact ok_k hb)) (by refine ⟨?_, le_bool h12, ?_, trivial⟩ <;> (first | exact ov_S _ _ | exact ov_R a.k b.k)) ⟨by unfold cmpC; first | rw [if_neg (by simpa using h12)] | rw [if_pos (by simpa using h12)], rfl⟩

noncomputable def t3 : List (Nat × Ent) := (60, e2 eqG) :: t2
theorem t3_ok : EntsOk Try.prog t3 := .cons (eqG_ent same_c) t2_ok
theorem rowB_iff {l : List Val} : rowB l = true ↔ (putRow l).2 = 0 := by simp [rowB]
theorem my_c (a : Chg) (ha : Chg.ok a) : C Try.prog 38 [.d (chD a)] [] (fun r o => r = .d (.bool (mayC a)) ∧ o = []) := by
  have ok := cfT_ok t3_ok
  refine C_of_run (fn := Try.f38) (body := myC) true (by kernel_rfl) (by kernel_rfl) (by kernel_rfl) ?_
  have hkk : okRow (a.k.map vD) = true := okRow_map ha.2.1 ha.1.1
  have hoo : okRow (a.o.map vD) = true := okRow_map ha.2.2.1 ha.1.2.1
  have hnn : okRow (a.n.map vD) = true := okRow_map ha.2.2.2 ha.1.2.2
  have hml : (a.k.map vD).length = a.k.length := List.length_map ..
  by_cases c1 : a.t.length < 1
  · skip
    exact WK.fin ok 1000 0 [(10, RV.d (DV.bool true))] [] [(RV.d (DV.bool (decide ((Nat.cast (R := Int) (List.length a.t)) < 1))), RV.d (DV.bool true))] rfl (by kernel_rfl : runEnd (cfT t3) true _ 1000 0 _ _ (ini 48 [.d (chD a)] []) = some (RV.d (DV.bool false), [], _, _)) trivial ⟨(by exact le_bool (decide_eq_true (by omega))), trivial⟩ ⟨by have : ¬ 1 ≤ a.t.length := (by omega); simp [mayC, this], rfl⟩
  by_cases c2 : 32 < a.t.length
  · skip
    exact WK.fin ok 1000 0 [(10, RV.d (DV.bool false)), (15, RV.d (DV.bool true))] [] [(RV.d (DV.bool (decide ((Nat.cast (R := Int) (List.length a.t)) < 1))), RV.d (DV.bool false)), (RV.d (DV.bool (decide (32 < (Nat.cast (R := Int) (List.length a.t))))), RV.d (DV.bool true))] rfl (by kernel_rfl : runEnd (cfT t3) true _ 1000 0 _ _ (ini 48 [.d (chD a)] []) = some (RV.d (DV.bool false), [], _, _)) trivial (by refine ⟨?_, ?_, trivial⟩ <;> (first | exact le_bool (decide_eq_true (by omega)) | exact le_bool (decide_eq_false (by omega)))) ⟨by have : ¬ a.t.length ≤ 32 := (by omega); simp [mayC, this], rfl⟩
  by_cases c3 : a.k.length < 1
  · skip
    exact WK.fin ok 1000 0 [(10, RV.d (DV.bool false)), (15, RV.d (DV.bool false)), (21, RV.d (DV.bool true))] [] [(RV.d (DV.bool (decide ((Nat.cast (R := Int) (List.length a.t)) < 1))), RV.d (DV.bool false)), (RV.d (DV.bool (decide (32 < (Nat.cast (R := Int) (List.length a.t))))), RV.d (DV.bool false)), (RV.d (DV.bool (decide ((Nat.cast (R := Int) (List.map vD a.k).length) < 1))), RV.d (DV.bool true))] rfl (by kernel_rfl : runEnd (cfT t3) true _ 1000 0 _ _ (ini 48 [.d (chD a)] []) = some (RV.d (DV.bool false), [], _, _)) trivial (by refine ⟨?_, ?_, ?_, trivial⟩ <;> (first | exact le_bool (decide_eq_true (by omega)) | exact le_bool (decide_eq_false (by omega)))) ⟨by have : ¬ 1 ≤ a.k.length := (by omega); simp [mayC, this], rfl⟩
  have g1 : decide (1 ≤ a.t.length) = true := decide_eq_true (by omega)
  have g2 : decide (a.t.length ≤ 32) = true := decide_eq_true (by omega)
  have g3 : decide (1 ≤ a.k.length) = true := decide_eq_true (by omega)
  have hm : mayC a = (!decide (a.o = a.n) && rowB a.k && rowB a.o && rowB a.n) := by simp only [mayC, g1, g2, g3, Bool.true_and]
  rw [hm]
  have bad : ∀ {l : List Val}, ((putRow (toRow (l.map vD))).2 != 0) = true → rowB l = false := fun {l} h => by
    rw [toRow_map] at h; simpa [rowB] using h
  have good : ∀ {l : List Val}, ((putRow (toRow (l.map vD))).2 != 0) = false → rowB l = true := fun {l} h => by
    rw [toRow_map] at h; simpa [rowB] using h
  have w3 : WK Try.prog 0 (stackAt myC 0) (myS a 3).den (Ends (Try.f38.results.toList) (.d (.bool true))) := by
    exact WK.fin ok 1000 0 [] [] [] rfl (by kernel_rfl : runEnd (cfT t3) true _ 1000 0 _ _ (myS a 3) = some (RV.d (DV.bool true), [], _, _)) trivial trivial ⟨rfl, rfl⟩
  have w2 : WK Try.prog 0 (stackAt myC 0) (myS a 2).den (Ends (Try.f38.results.toList) (.d (.bool (rowB a.n)))) := by
    rcases Bool.eq_false_or_eq_true ((Plain.putRow (toRow (List.map vD a.n))).2 != 0 : Bool) with h46 | h46
    · skip
      exact WK.fin ok 1000 0 [(46, RV.d (DV.bool true))] [true, okRow (List.map vD a.4), true] [(RV.d (DV.bool ((Plain.putRow (toRow (List.map vD a.n))).2 != 0)), RV.d (DV.bool true))] rfl (by kernel_rfl : runEnd (cfT t3) true _ 1000 0 _ _ (myS a 2) = some (RV.d (DV.bool false), [], _, _)) (by refine ⟨?_, ?_, ?_, trivial⟩ <;> (first | exact hnn | rfl)) ⟨le_bool h46, trivial⟩ ⟨by rw [bad h46], rfl⟩
    · skip
      refine WK.segA ok 1000 0 [(46, RV.d (DV.bool false))] [] [36, 37] [true, okRow (List.map vD a.4), true] [(RV.d (DV.bool ((Plain.putRow (toRow (List.map vD a.n))).2 != 0)), RV.d (DV.bool false))] rfl (by kernel_rfl : runSegA (cfT t3) 1000 0 _ _ _ _ (myS a 2) = some (stackAt myC 0, myS a 3, _, _)) (by refine ⟨?_, ?_, ?_, trivial⟩ <;> (first | exact hnn | rfl)) ⟨le_bool h46, trivial⟩ ?_
      rw [good h46]; exact w3
  have w1 : WK Try.prog 0 (stackAt myC 0) (myS a 1).den (Ends (Try.f38.results.toList) (.d (.bool (rowB a.o && rowB a.n)))) := by
    rcases Bool.eq_false_or_eq_true ((Plain.putRow (toRow (List.map vD a.o))).2 != 0 : Bool) with h46 | h46
    · skip
      exact WK.fin ok 1000 0 [(46, RV.d (DV.bool true))] [true, okRow (List.map vD a.3), true] [(RV.d (DV.bool ((Plain.putRow (toRow (List.map vD a.o))).2 != 0)), RV.d (DV.bool true))] rfl (by kernel_rfl : runEnd (cfT t3) true _ 1000 0 _ _ (myS a 1) = some (RV.d (DV.bool false), [], _, _)) (by refine ⟨?_, ?_, ?_, trivial⟩ <;> (first | exact hoo | rfl)) ⟨le_bool h46, trivial⟩ ⟨by rw [bad h46]; rfl, rfl⟩
    · skip
      refine WK.segA ok 1000 0 [(46, RV.d (DV.bool false))] [] [36, 37] [true, okRow (List.map vD a.3), true] [(RV.d (DV.bool ((Plain.putRow (toRow (List.map vD a.o))).2 != 0)), RV.d (DV.bool false))] rfl (by kernel_rfl : runSegA (cfT t3) 1000 0 _ _ _ _ (myS a 1) = some (stackAt myC 0, myS a 2, _, _)) (by refine ⟨?_, ?_, ?_, trivial⟩ <;> (first | exact hoo | rfl)) ⟨le_bool h46, trivial⟩ ?_
      rw [good h46, Bool.true_and]; exact w2
  have w0 : WK Try.prog 0 (stackAt myC 0) (myS a 0).den (Ends (Try.f38.results.toList) (.d (.bool (rowB a.k && rowB a.o && rowB a.n)))) := by
    rcases Bool.eq_false_or_eq_true ((Plain.putRow (toRow (List.map vD a.k))).2 != 0 : Bool) with h46 | h46
    · skip
      exact WK.fin ok 1000 0 [(46, RV.d (DV.bool true))] [true, okRow (List.map vD a.2), true] [(RV.d (DV.bool ((Plain.putRow (toRow (List.map vD a.k))).2 != 0)), RV.d (DV.bool true))] rfl (by kernel_rfl : runEnd (cfT t3) true _ 1000 0 _ _ (myS a 0) = some (RV.d (DV.bool false), [], _, _)) (by refine ⟨?_, ?_, ?_, trivial⟩ <;> (first | exact hkk | rfl)) ⟨le_bool h46, trivial⟩ ⟨by rw [bad h46]; rfl, rfl⟩
    · skip
      refine WK.segA ok 1000 0 [(46, RV.d (DV.bool false))] [] [36, 37] [true, okRow (List.map vD a.2), true] [(RV.d (DV.bool ((Plain.putRow (toRow (List.map vD a.k))).2 != 0)), RV.d (DV.bool false))] rfl (by kernel_rfl : runSegA (cfT t3) 1000 0 _ _ _ _ (myS a 0) = some (stackAt myC 0, myS a 1, _, _)) (by refine ⟨?_, ?_, ?_, trivial⟩ <;> (first | exact hkk | rfl)) ⟨le_bool h46, trivial⟩ ?_
      rw [good h46, Bool.true_and]; exact w1
  rcases Bool.eq_false_or_eq_true (decide (a.o = a.n) : Bool) with h29 | h29
  · skip
    exact WK.fin ok 1000 0 [(10, RV.d (DV.bool false)), (15, RV.d (DV.bool false)), (21, RV.d (DV.bool false)), (28, RV.d (DV.bool (decide (a.o = a.n)))), (29, RV.d (DV.bool true))] [isR (DV.lst 3 (List.map vD a.3) false), isR (DV.lst 3 (List.map vD a.4) false)] [(RV.d (DV.bool (decide ((Nat.cast (R := Int) (List.length a.t)) < 1))), RV.d (DV.bool false)), (RV.d (DV.bool (decide (32 < (Nat.cast (R := Int) (List.length a.t))))), RV.d (DV.bool false)), (RV.d (DV.bool (decide ((Nat.cast (R := Int) (List.map vD a.k).length) < 1))), RV.d (DV.bool false)), (RV.d (DV.bool (decide (unR (rD a.o) = unR (rD a.n)))), RV.d (DV.bool (decide (a.o = a.n)))), (RV.d (DV.bool (decide (a.o = a.n))), RV.d (DV.bool true))] rfl (by kernel_rfl : runEnd (cfT t3) true _ 1000 0 _ _ (ini 48 [.d (chD a)] []) = some (RV.d (DV.bool false), [], _, _)) (by refine ⟨?_, ?_, trivial⟩ <;> (first | exact ok_o ha | exact ok_n ha)) (by refine ⟨?_, ?_, ?_, ?_, le_bool h29, trivial⟩ <;> (first | exact ov_E a.o a.n | exact le_bool (decide_eq_true (by omega)) | exact le_bool (decide_eq_false (by omega)))) ⟨by rw [h29]; rfl, rfl⟩
  · skip
    refine WK.segA ok 1000 0 [(10, RV.d (DV.bool false)), (15, RV.d (DV.bool false)), (21, RV.d (DV.bool false)), (28, RV.d (DV.bool (decide (a.o = a.n)))), (29, RV.d (DV.bool false))] [] [36, 37] [isR (DV.lst 3 (List.map vD a.3) false), isR (DV.lst 3 (List.map vD a.4) false)] [(RV.d (DV.bool (decide ((Nat.cast (R := Int) (List.length a.t)) < 1))), RV.d (DV.bool false)), (RV.d (DV.bool (decide (32 < (Nat.cast (R := Int) (List.length a.t))))), RV.d (DV.bool false)), (RV.d (DV.bool (decide ((Nat.cast (R := Int) (List.map vD a.k).length) < 1))), RV.d (DV.bool false)), (RV.d (DV.bool (decide (unR (rD a.o) = unR (rD a.n)))), RV.d (DV.bool (decide (a.o = a.n)))), (RV.d (DV.bool (decide (a.o = a.n))), RV.d (DV.bool false))] rfl (by kernel_rfl : runSegA (cfT t3) 1000 0 _ _ _ _ (ini 48 [.d (chD a)] []) = some (stackAt myC 0, myS a 0, _, _)) (by refine ⟨?_, ?_, trivial⟩ <;> (first | exact ok_o ha | exact ok_n ha)) (by refine ⟨?_, ?_, ?_, ?_, le_bool h29, trivial⟩ <;> (first | exact ov_E a.o a.n | exact le_bool (decide_eq_true (by omega)) | exact le_bool (decide_eq_false (by omega)))) ?_
    rw [h29]
    simp only [Bool.not_false, Bool.true_and]
    exact w0
theorem my_ent : EntOk Try.prog 38 (e1 myG) := by
  refine e1_ok fun x y c hg hc => ?_
  simp only [myG, Option.some.injEq, Prod.mk.injEq] at hg
  obtain ⟨rfl, rfl⟩ := hg
  obtain ⟨a, rfl, wa⟩ := isC_spec (hc (isC x) (by simp))
  rw [toChg_chD]
  exact my_c a wa
noncomputable def t4 : List (Nat × Ent) := (38, e1 myG) :: (39, e2 ccG) :: t3
theorem t4_ok : EntsOk Try.prog t4 := .cons my_ent (.cons (ccG_ent mc_c) t3_ok)

/-- what stands ahead of a place -/
def ahead (l : List Chg) : Nat → Option Chg
  | 0 => none
  | i + 1 => l[i]?
theorem mayI_cons (p : Option Chg) (x : Chg) (r : List Chg) : mayI p (x :: r) = (mayC x && (match p with | none => true | some y => decide (cmpC y x < 0)) && mayI (some x) r) := by cases p <;> rfl
theorem mayI_drop {l : List Chg} {i : Nat} (h : i < l.length) : mayI (ahead l i) (l.drop i) = (mayC l[i] && (match ahead l i with | none => true | some y => decide (cmpC y l[i] < 0)) && mayI (ahead l (i + 1)) (l.drop (i + 1))) := by
  rw [List.drop_eq_getElem_cons h, mayI_cons]
  simp only [ahead, List.getElem?_eq_getElem h]
theorem ck_c (l : List Chg) (hl : okL l) : C Try.prog 17 [.d (chL l)] [] (fun r o => r = .d (.int .i64 (if mayL l then 0 else 2)) ∧ o = []) := by
  have ok := cfT_ok t4_ok
  refine C_of_run (fn := Try.f17) (body := ckC) true (by kernel_rfl) (by kernel_rfl) (by kernel_rfl) ?_
  have hml : (l.map chD).length = l.length := List.length_map ..
  have hok := hl.2
  have hloop : l.length ≤ 1000 → WK Try.prog 0 (stackAt ckC 0) (ckS (l.map chD) 0).den (Ends (Try.f17.results.toList) (.d (.int .i64 (if mayL l then 0 else 2)))) := by
    intro hlen
    have hmay : mayL l = mayI none l := by simp [mayL, hlen]
    rw [hmay]
    refine WK.rec' (fun i => ckS (l.map chD) i) (fun i => i ≤ l.length ∧ mayI (ahead l i) (l.drop i) = mayI none l) (fun i => l.length - i) ?_ 0 ⟨Nat.zero_le _, rfl⟩
    rintro i ⟨hi, ht⟩ ih
    obtain ⟨x, hx⟩ := at_chg l i
    have hxo : i < l.length → Chg.ok x := fun h => by rw [← hx h]; exact hok _ (List.getElem_mem h)
    have hend : decide ((Nat.cast (R := Int) i) < (Nat.cast (R := Int) (l.map chD).length)) = false → mayI none l = true := fun h => by
      rw [← ht, List.drop_eq_nil_of_le (ge_map h)]; rfl
    have hstep : i < l.length → mayI none l = (mayC x && (match ahead l i with | none => true | some y => decide (cmpC y x < 0)) && mayI (ahead l (i + 1)) (l.drop (i + 1))) := fun h => by
      rw [← ht, mayI_drop h, hx h]
    by_cases hm : mayC x = true
    · cases i with
      | zero =>
        rcases Bool.eq_false_or_eq_true (decide ((Nat.cast (R := Int) 0) < (Nat.cast (R := Int) (l.map chD).length)) : Bool) with h11 | h11
        · skip
          refine WK.segA ok 1000 0 [(13, RV.iptr (DV.agg [DV.str x.1, DV.lst 3 (List.map vD x.2) false, DV.lst 3 (List.map vD x.3) false, DV.lst 3 (List.map vD x.4) false]) 0), (16, RV.d (DV.bool true)), (20, RV.d (DV.bool false)), (31, RV.d (DV.bool false)), (32, RV.d (DV.int Go.IntKind.i64 (Nat.cast (R := Int) (0 + 1)))), (11, RV.d (DV.bool true))] [] [0, 8, 9, 10] [decide (0 ≤ (Nat.cast (R := Int) 0) ∧ (Nat.cast (R := Int) 0) < (Nat.cast (R := Int) (l.map chD).length)), isC (DV.agg [DV.str x.1, DV.lst 3 (List.map vD x.2) false, DV.lst 3 (List.map vD x.3) false, DV.lst 3 (List.map vD x.4) false])] [(RV.d (DV.bool (decide ((Nat.cast (R := Int) 0) < (Nat.cast (R := Int) (l.map chD).length)))), RV.d (DV.bool true)), (RV.iptr ((l.map chD).getD (Nat.cast (R := Int) 0).toNat DV.nilp) 0, RV.iptr (DV.agg [DV.str x.1, DV.lst 3 (List.map vD x.2) false, DV.lst 3 (List.map vD x.3) false, DV.lst 3 (List.map vD x.4) false]) 0), (RV.d (DV.bool (Plain.mayC { t := x.1, k := List.map toVal (List.map vD x.k), o := List.map toVal (List.map vD x.o), n := List.map toVal (List.map vD x.n) })), RV.d (DV.bool true)), (RV.d (DV.bool (decide (0 < (Nat.cast (R := Int) 0)))), RV.d (DV.bool false)), (RV.d (DV.bool (match !true with | true => true | false => false)), RV.d (DV.bool false)), (RV.d (DV.int Go.IntKind.i64 (Go.IntKind.i64.wrap ((Nat.cast (R := Int) 0) + 1))), RV.d (DV.int Go.IntKind.i64 (Nat.cast (R := Int) (0 + 1))))] rfl (by kernel_rfl : runSegA (cfT t4) 1000 0 _ _ _ _ (ckS (l.map chD) 0) = some (stackAt ckC 0, ckS (l.map chD) (0 + 1), _, _)) (by refine ⟨?_, ?_, trivial⟩ <;> (first | exact bd_map (i := 0) (lt_map h11) | exact isC_chD (hxo (lt_map h11)))) (by refine ⟨le_bool h11, ?_, ?_, ?_, ?_, ?_, trivial⟩ <;> (first | exact ov_chg (i := 0) (lt_map h11) (hx (lt_map h11)) | exact ov_M hm | exact ov_succ (by omega) | exact le_bool rfl)) ?_
          have hlt := lt_map h11
          refine ih (0 + 1) ⟨hlt, ?_⟩ (by omega)
          rw [hstep hlt, hm]; simp [ahead]
        · skip
          exact WK.fin ok 1000 0 [(13, RV.iptr (DV.agg [DV.str x.1, DV.lst 3 (List.map vD x.2) false, DV.lst 3 (List.map vD x.3) false, DV.lst 3 (List.map vD x.4) false]) 0), (16, RV.d (DV.bool true)), (20, RV.d (DV.bool false)), (31, RV.d (DV.bool false)), (32, RV.d (DV.int Go.IntKind.i64 (Nat.cast (R := Int) (0 + 1)))), (11, RV.d (DV.bool false))] [] [(RV.d (DV.bool (decide ((Nat.cast (R := Int) 0) < (Nat.cast (R := Int) (l.map chD).length)))), RV.d (DV.bool false))] rfl (by kernel_rfl : runEnd (cfT t4) true _ 1000 0 _ _ (ckS (l.map chD) 0) = some (RV.d (DV.int Go.IntKind.i64 (0)), [], _, _)) trivial ⟨le_bool h11, trivial⟩ ⟨by rw [hend h11]; rfl, rfl⟩
      | succ m =>
        obtain ⟨y, hy⟩ := at_chg l m
        have hah : m < l.length → ahead l (m + 1) = some y := fun h => by rw [ahead, List.getElem?_eq_getElem h, hy h]
        have hbad : m + 1 < l.length → 0 ≤ cmpC y x → mayI none l = false := fun h e => by
          rw [hstep h, hah (by omega)]
          simp only
          rw [decide_eq_false (by omega : ¬ cmpC y x < 0), Bool.and_false, Bool.false_and]
        have hyo : m < l.length → Chg.ok y := fun h => by rw [← hy h]; exact hok _ (List.getElem_mem h)
        rcases Bool.eq_false_or_eq_true (decide ((Nat.cast (R := Int) (m + 1)) < (Nat.cast (R := Int) (l.map chD).length)) : Bool) with h11 | h11
        · skip
          rcases Bool.eq_false_or_eq_true (match !true with | true => true | false => bif true then decide (0 ≤ Plain.cmpC y x) else false : Bool) with h31 | h31
          · skip
            exact WK.fin ok 1000 0 [(13, RV.iptr (DV.agg [DV.str x.1, DV.lst 3 (List.map vD x.2) false, DV.lst 3 (List.map vD x.3) false, DV.lst 3 (List.map vD x.4) false]) 0), (16, RV.d (DV.bool true)), (20, RV.d (DV.bool true)), (24, RV.d (DV.int Go.IntKind.i64 (Nat.cast (R := Int) m))), (25, RV.iptr (DV.agg [DV.str y.1, DV.lst 3 (List.map vD y.2) false, DV.lst 3 (List.map vD y.3) false, DV.lst 3 (List.map vD y.4) false]) 0), (28, RV.d (DV.int Go.IntKind.i64 (Plain.cmpC y x))), (32, RV.d (DV.int Go.IntKind.i64 (Nat.cast (R := Int) ((m + 1) + 1)))), (11, RV.d (DV.bool true)), (31, RV.d (DV.bool true))] [decide (0 ≤ (Nat.cast (R := Int) (m + 1)) ∧ (Nat.cast (R := Int) (m + 1)) < (Nat.cast (R := Int) (l.map chD).length)), isC (DV.agg [DV.str x.1, DV.lst 3 (List.map vD x.2) false, DV.lst 3 (List.map vD x.3) false, DV.lst 3 (List.map vD x.4) false]), decide (0 ≤ (Nat.cast (R := Int) m) ∧ (Nat.cast (R := Int) m) < (Nat.cast (R := Int) (l.map chD).length)), isC (DV.agg (List.take 4 (List.drop 0 (DV.agg [DV.str y.1, DV.lst 3 (List.map vD y.2) false, DV.lst 3 (List.map vD y.3) false, DV.lst 3 (List.map vD y.4) false]).cells))), isC (DV.agg [DV.str x.1, DV.lst 3 (List.map vD x.2) false, DV.lst 3 (List.map vD x.3) false, DV.lst 3 (List.map vD x.4) false])] [(RV.d (DV.bool (decide ((Nat.cast (R := Int) (m + 1)) < (Nat.cast (R := Int) (l.map chD).length)))), RV.d (DV.bool true)), (RV.iptr ((l.map chD).getD (Nat.cast (R := Int) (m + 1)).toNat DV.nilp) 0, RV.iptr (DV.agg [DV.str x.1, DV.lst 3 (List.map vD x.2) false, DV.lst 3 (List.map vD x.3) false, DV.lst 3 (List.map vD x.4) false]) 0), (RV.d (DV.bool (Plain.mayC { t := x.1, k := List.map toVal (List.map vD x.k), o := List.map toVal (List.map vD x.o), n := List.map toVal (List.map vD x.n) })), RV.d (DV.bool true)), (RV.d (DV.bool (decide (0 < (Nat.cast (R := Int) (m + 1))))), RV.d (DV.bool true)), (RV.d (DV.int Go.IntKind.i64 (Go.IntKind.i64.wrap ((Nat.cast (R := Int) (m + 1)) - 1))), RV.d (DV.int Go.IntKind.i64 (Nat.cast (R := Int) m))), (RV.iptr ((l.map chD).getD (Nat.cast (R := Int) m).toNat DV.nilp) 0, RV.iptr (DV.agg [DV.str y.1, DV.lst 3 (List.map vD y.2) false, DV.lst 3 (List.map vD y.3) false, DV.lst 3 (List.map vD y.4) false]) 0), (RV.d (DV.int Go.IntKind.i64 (Plain.cmpC { t := y.1, k := List.map toVal (List.map vD y.k), o := List.map toVal (List.map vD y.o), n := List.map toVal (List.map vD y.n) } { t := x.1, k := List.map toVal (List.map vD x.k), o := List.map toVal (List.map vD x.o), n := List.map toVal (List.map vD x.n) })), RV.d (DV.int Go.IntKind.i64 (Plain.cmpC y x))), (RV.d (DV.bool (match !true with | true => true | false => bif true then decide (0 ≤ Plain.cmpC y x) else false)), RV.d (DV.bool true))] rfl (by kernel_rfl : runEnd (cfT t4) true _ 1000 0 _ _ (ckS (l.map chD) (m + 1)) = some (RV.d (DV.int Go.IntKind.i64 (2)), [], _, _)) (by refine ⟨?_, ?_, ?_, ?_, ?_, trivial⟩ <;> (have hlt := lt_map h11; first | exact bd_map hlt | exact isC_chD (hxo hlt) | exact bd_map (i := m) (by omega) | exact isC_chD (hyo (by omega)))) (by refine ⟨le_bool h11, ?_, ?_, ?_, ?_, ?_, ?_, le_bool h31, trivial⟩ <;> (have hlt := lt_map h11; first | exact ov_chg hlt (hx hlt) | exact ov_M hm | exact ov_succ (by omega) | exact ov_chg (i := m) (by omega) (hy (by omega)) | exact ov_C y x | exact le_bool (decide_eq_true (by omega)) | (refine .of_eq ?_; rw [i64_in _ (by omega)]; congr 2; omega) | exact le_bool h31)) ⟨by first | (rw [hend h11]; rfl) | (rw [hbad (lt_map h11) (of_decide_eq_true h31)]; rfl), rfl⟩
          · skip
            refine WK.segA ok 1000 0 [(13, RV.iptr (DV.agg [DV.str x.1, DV.lst 3 (List.map vD x.2) false, DV.lst 3 (List.map vD x.3) false, DV.lst 3 (List.map vD x.4) false]) 0), (16, RV.d (DV.bool true)), (20, RV.d (DV.bool true)), (24, RV.d (DV.int Go.IntKind.i64 (Nat.cast (R := Int) m))), (25, RV.iptr (DV.agg [DV.str y.1, DV.lst 3 (List.map vD y.2) false, DV.lst 3 (List.map vD y.3) false, DV.lst 3 (List.map vD y.4) false]) 0), (28, RV.d (DV.int Go.IntKind.i64 (Plain.cmpC y x))), (32, RV.d (DV.int Go.IntKind.i64 (Nat.cast (R := Int) ((m + 1) + 1)))), (11, RV.d (DV.bool true)), (31, RV.d (DV.bool false))] [] [0, 8, 9, 10] [decide (0 ≤ (Nat.cast (R := Int) (m + 1)) ∧ (Nat.cast (R := Int) (m + 1)) < (Nat.cast (R := Int) (l.map chD).length)), isC (DV.agg [DV.str x.1, DV.lst 3 (List.map vD x.2) false, DV.lst 3 (List.map vD x.3) false, DV.lst 3 (List.map vD x.4) false]), decide (0 ≤ (Nat.cast (R := Int) m) ∧ (Nat.cast (R := Int) m) < (Nat.cast (R := Int) (l.map chD).length)), isC (DV.agg (List.take 4 (List.drop 0 (DV.agg [DV.str y.1, DV.lst 3 (List.map vD y.2) false, DV.lst 3 (List.map vD y.3) false, DV.lst 3 (List.map vD y.4) false]).cells))), isC (DV.agg [DV.str x.1, DV.lst 3 (List.map vD x.2) false, DV.lst 3 (List.map vD x.3) false, DV.lst 3 (List.map vD x.4) false])] [(RV.d (DV.bool (decide ((Nat.cast (R := Int) (m + 1)) < (Nat.cast (R := Int) (l.map chD).length)))), RV.d (DV.bool true)), (RV.iptr ((l.map chD).getD (Nat.cast (R := Int) (m + 1)).toNat DV.nilp) 0, RV.iptr (DV.agg [DV.str x.1, DV.lst 3 (List.map vD x.2) false, DV.lst 3 (List.map vD x.3) false, DV.lst 3 (List.map vD x.4) false]) 0), (RV.d (DV.bool (Plain.mayC { t := x.1, k := List.map toVal (List.map vD x.k), o := List.map toVal (List.map vD x.o), n := List.map toVal (List.map vD x.n) })), RV.d (DV.bool true)), (RV.d (DV.bool (decide (0 < (Nat.cast (R := Int) (m + 1))))), RV.d (DV.bool true)), (RV.d (DV.int Go.IntKind.i64 (Go.IntKind.i64.wrap ((Nat.cast (R := Int) (m + 1)) - 1))), RV.d (DV.int Go.IntKind.i64 (Nat.cast (R := Int) m))), (RV.iptr ((l.map chD).getD (Nat.cast (R := Int) m).toNat DV.nilp) 0, RV.iptr (DV.agg [DV.str y.1, DV.lst 3 (List.map vD y.2) false, DV.lst 3 (List.map vD y.3) false, DV.lst 3 (List.map vD y.4) false]) 0), (RV.d (DV.int Go.IntKind.i64 (Plain.cmpC { t := y.1, k := List.map toVal (List.map vD y.k), o := List.map toVal (List.map vD y.o), n := List.map toVal (List.map vD y.n) } { t := x.1, k := List.map toVal (List.map vD x.k), o := List.map toVal (List.map vD x.o), n := List.map toVal (List.map vD x.n) })), RV.d (DV.int Go.IntKind.i64 (Plain.cmpC y x))), (RV.d (DV.bool (match !true with | true => true | false => bif true then decide (0 ≤ Plain.cmpC y x) else false)), RV.d (DV.bool false)), (RV.d (DV.int Go.IntKind.i64 (Go.IntKind.i64.wrap ((Nat.cast (R := Int) (m + 1)) + 1))), RV.d (DV.int Go.IntKind.i64 (Nat.cast (R := Int) ((m + 1) + 1))))] rfl (by kernel_rfl : runSegA (cfT t4) 1000 0 _ _ _ _ (ckS (l.map chD) (m + 1)) = some (stackAt ckC 0, ckS (l.map chD) (m + 1 + 1), _, _)) (by refine ⟨?_, ?_, ?_, ?_, ?_, trivial⟩ <;> (have hlt := lt_map h11; first | exact bd_map hlt | exact isC_chD (hxo hlt) | exact bd_map (i := m) (by omega) | exact isC_chD (hyo (by omega)))) (by refine ⟨le_bool h11, ?_, ?_, ?_, ?_, ?_, ?_, le_bool h31, ?_, trivial⟩ <;> (have hlt := lt_map h11; first | exact ov_chg hlt (hx hlt) | exact ov_M hm | exact ov_succ (by omega) | exact ov_chg (i := m) (by omega) (hy (by omega)) | exact ov_C y x | exact le_bool (decide_eq_true (by omega)) | (refine .of_eq ?_; rw [i64_in _ (by omega)]; congr 2; omega) | exact le_bool h31)) ?_
            have hlt := lt_map h11
            refine ih (m + 1 + 1) ⟨hlt, ?_⟩ (by omega)
            have e : decide (0 ≤ cmpC y x) = false := h31
            have e2 := of_decide_eq_false e
            rw [hstep hlt, hah (by omega), hm]
            simp only
            rw [decide_eq_true (by omega : cmpC y x < 0)]; rfl
        · skip
          exact WK.fin ok 1000 0 [(13, RV.iptr (DV.agg [DV.str x.1, DV.lst 3 (List.map vD x.2) false, DV.lst 3 (List.map vD x.3) false, DV.lst 3 (List.map vD x.4) false]) 0), (16, RV.d (DV.bool true)), (20, RV.d (DV.bool true)), (24, RV.d (DV.int Go.IntKind.i64 (Nat.cast (R := Int) m))), (25, RV.iptr (DV.agg [DV.str y.1, DV.lst 3 (List.map vD y.2) false, DV.lst 3 (List.map vD y.3) false, DV.lst 3 (List.map vD y.4) false]) 0), (28, RV.d (DV.int Go.IntKind.i64 (Plain.cmpC y x))), (32, RV.d (DV.int Go.IntKind.i64 (Nat.cast (R := Int) ((m + 1) + 1)))), (11, RV.d (DV.bool false))] [] [(RV.d (DV.bool (decide ((Nat.cast (R := Int) (m + 1)) < (Nat.cast (R := Int) (l.map chD).length)))), RV.d (DV.bool false))] rfl (by kernel_rfl : runEnd (cfT t4) true _ 1000 0 _ _ (ckS (l.map chD) (m + 1)) = some (RV.d (DV.int Go.IntKind.i64 (0)), [], _, _)) trivial ⟨le_bool h11, trivial⟩ ⟨by first | (rw [hend h11]; rfl) | (rw [hbad (lt_map h11) (of_decide_eq_true h31)]; rfl), rfl⟩
    · have hm' : mayC x = false := by simpa using hm
      rcases Bool.eq_false_or_eq_true (decide ((Nat.cast (R := Int) i) < (Nat.cast (R := Int) (l.map chD).length)) : Bool) with h11 | h11
      · skip
        exact WK.fin ok 1000 0 [(13, RV.iptr (DV.agg [DV.str x.1, DV.lst 3 (List.map vD x.2) false, DV.lst 3 (List.map vD x.3) false, DV.lst 3 (List.map vD x.4) false]) 0), (16, RV.d (DV.bool false)), (11, RV.d (DV.bool true))] [decide (0 ≤ (Nat.cast (R := Int) i) ∧ (Nat.cast (R := Int) i) < (Nat.cast (R := Int) (l.map chD).length)), isC (DV.agg [DV.str x.1, DV.lst 3 (List.map vD x.2) false, DV.lst 3 (List.map vD x.3) false, DV.lst 3 (List.map vD x.4) false])] [(RV.d (DV.bool (decide ((Nat.cast (R := Int) i) < (Nat.cast (R := Int) (l.map chD).length)))), RV.d (DV.bool true)), (RV.iptr ((l.map chD).getD (Nat.cast (R := Int) i).toNat DV.nilp) 0, RV.iptr (DV.agg [DV.str x.1, DV.lst 3 (List.map vD x.2) false, DV.lst 3 (List.map vD x.3) false, DV.lst 3 (List.map vD x.4) false]) 0), (RV.d (DV.bool (Plain.mayC { t := x.1, k := List.map toVal (List.map vD x.k), o := List.map toVal (List.map vD x.o), n := List.map toVal (List.map vD x.n) })), RV.d (DV.bool false))] rfl (by kernel_rfl : runEnd (cfT t4) true _ 1000 0 _ _ (ckS (l.map chD) i) = some (RV.d (DV.int Go.IntKind.i64 (2)), [], _, _)) (by refine ⟨?_, ?_, trivial⟩ <;> (have hlt := lt_map h11; first | exact bd_map hlt | exact isC_chD (hxo hlt))) (by refine ⟨le_bool h11, ?_, ?_, trivial⟩ <;> (have hlt := lt_map h11; first | exact ov_chg hlt (hx hlt) | exact ov_M hm')) ⟨by first | (rw [hend h11]; rfl) | (have e : mayI none l = false := (by rw [hstep (lt_map h11), hm']; rfl); rw [e]; rfl), rfl⟩
      · skip
        exact WK.fin ok 1000 0 [(13, RV.iptr (DV.agg [DV.str x.1, DV.lst 3 (List.map vD x.2) false, DV.lst 3 (List.map vD x.3) false, DV.lst 3 (List.map vD x.4) false]) 0), (16, RV.d (DV.bool false)), (11, RV.d (DV.bool false))] [] [(RV.d (DV.bool (decide ((Nat.cast (R := Int) i) < (Nat.cast (R := Int) (l.map chD).length)))), RV.d (DV.bool false))] rfl (by kernel_rfl : runEnd (cfT t4) true _ 1000 0 _ _ (ckS (l.map chD) i) = some (RV.d (DV.int Go.IntKind.i64 (0)), [], _, _)) trivial ⟨le_bool h11, trivial⟩ ⟨by first | (rw [hend h11]; rfl) | (have e : mayI none l = false := (by rw [hstep (lt_map h11), hm']; rfl); rw [e]; rfl), rfl⟩
  rcases Bool.eq_false_or_eq_true (decide (1000 < (Nat.cast (R := Int) (l.map chD).length)) : Bool) with h7 | h7
  · skip
    exact WK.fin ok 1000 0 [(7, RV.d (DV.bool true))] [] [(RV.d (DV.bool (decide (1000 < (Nat.cast (R := Int) (l.map chD).length)))), RV.d (DV.bool true))] rfl (by kernel_rfl : runEnd (cfT t4) true _ 1000 0 _ _ (ini 33 [.d (chL l)] []) = some (RV.d (DV.int Go.IntKind.i64 (2)), [], _, _)) trivial ⟨le_bool h7, trivial⟩ ⟨by have e := of_decide_eq_true h7; have e2 : ¬ l.length ≤ 1000 := (by omega); simp [mayL, e2], rfl⟩
  · skip
    refine WK.segA ok 1000 0 [(7, RV.d (DV.bool false))] [] [0, 8, 9, 10] [] [(RV.d (DV.bool (decide (1000 < (Nat.cast (R := Int) (l.map chD).length)))), RV.d (DV.bool false))] rfl (by kernel_rfl : runSegA (cfT t4) 1000 0 _ _ _ _ (ini 33 [.d (chL l)] []) = some (stackAt ckC 0, ckS (l.map chD) 0, _, _)) trivial ⟨le_bool h7, trivial⟩ ?_
    have e := of_decide_eq_false h7
    exact hloop (by omega)
theorem ck_ent : EntOk Try.prog 17 (e1 ckG) := by
  refine e1_ok fun x y c hg hc => ?_
  simp only [ckG, Option.some.injEq, Prod.mk.injEq] at hg
  obtain ⟨rfl, rfl⟩ := hg
  obtain ⟨l, rfl, hl⟩ := isL_spec (hc (isL x) (by simp))
  rw [unL_chL]
  exact ck_c l hl
theorem ov_B {l : List Val} {b : Bool} (h : rowB l = b) : RVle (.d (.bool (rowB (unR (rD l))))) (.d (.bool b)) := .of_eq (by rw [unR_rD, h])
theorem ov_Eb {a b : List Val} {q : Bool} (h : decide (a = b) = q) : RVle (.d (.bool (decide (unR (rD a) = unR (rD b))))) (.d (.bool q)) := .of_eq (by rw [unR_rD, unR_rD, h])
end Go.Proofs.Ytljfolepmkcjlaa

/-
  Plain facts about sorting by a comparison: insertion, merging of two sorted lists, one sorted list of each. No program in sight.
-/
namespace Go.Proofs.Ytljfolepmkcjlaa.Srt
variable {α : Type}

/-- a comparison that orders: what it says one way it says the other way round, and it can be put together -/
structure Pre (c : α → α → Int) : Prop where
  anti : ∀ a b, c b a = - c a b
  trans : ∀ a b d, c a b ≤ 0 → c b d ≤ 0 → c a d ≤ 0

def srtB (c : α → α → Int) : List α → Bool
  | [] => true
  | x :: r => r.all (fun y => decide (c x y ≤ 0)) && srtB c r

/-- x put into a row from its end: in front of all at the end that it stands ahead of -/
def insE (c : α → α → Int) (acc : List α) (x : α) : List α :=
  (acc.reverse.dropWhile fun y => decide (c x y < 0)).reverse ++ x :: (acc.reverse.takeWhile fun y => decide (c x y < 0)).reverse
def isort (c : α → α → Int) (l : List α) : List α := l.foldl (insE c) []

def mrg (c : α → α → Int) : List α → List α → List α
  | [], Y => Y
  | x :: X, [] => x :: X
  | x :: X, y :: Y => if c y x < 0 then y :: mrg c (x :: X) Y else x :: mrg c X (y :: Y)
termination_by X Y => X.length + Y.length

variable {c : α → α → Int}

theorem srtB_cons {x : α} {r : List α} : srtB c (x :: r) = true ↔ (∀ y ∈ r, c x y ≤ 0) ∧ srtB c r = true := by
  simp [srtB, List.all_eq_true]
theorem srtB_append : ∀ {a b : List α}, srtB c (a ++ b) = true ↔ srtB c a = true ∧ srtB c b = true ∧ ∀ x ∈ a, ∀ y ∈ b, c x y ≤ 0
  | [], b => by simp [srtB]
  | x :: r, b => by
    rw [List.cons_append, srtB_cons, srtB_cons, srtB_append (a := r)]
    constructor
    · rintro ⟨h1, h2, h3, h4⟩
      refine ⟨⟨fun y hy => h1 y (by simp [hy]), h2⟩, h3, fun z hz y hy => ?_⟩
      rcases List.mem_cons.1 hz with rfl | hz
      · exact h1 y (by simp [hy])
      · exact h4 z hz y hy
    · rintro ⟨⟨h1, h2⟩, h3, h4⟩
      refine ⟨fun y hy => ?_, h2, h3, fun z hz y hy => h4 z (by simp [hz]) y hy⟩
      rcases List.mem_append.1 hy with hy | hy
      · exact h1 y hy
      · exact h4 x (by simp) y hy

theorem mrg_nil_r (c : α → α → Int) : ∀ (X : List α), mrg c X [] = X
  | [] => by rw [mrg]
  | x :: X => by rw [mrg]
theorem mrg_nil_l (c : α → α → Int) (Y : List α) : mrg c [] Y = Y := by rw [mrg]
theorem mrg_lt {x y : α} {X Y : List α} (h : c y x < 0) : mrg c (x :: X) (y :: Y) = y :: mrg c (x :: X) Y := by rw [mrg, if_pos h]
theorem mrg_ge {x y : α} {X Y : List α} (h : ¬ c y x < 0) : mrg c (x :: X) (y :: Y) = x :: mrg c X (y :: Y) := by rw [mrg, if_neg h]

theorem mrg_perm (c : α → α → Int) : ∀ (n : Nat) (X Y : List α), X.length + Y.length ≤ n → (mrg c X Y).Perm (X ++ Y)
  | 0, X, Y, h => by
    have h1 : X = [] := List.eq_nil_of_length_eq_zero (by omega)
    have h2 : Y = [] := List.eq_nil_of_length_eq_zero (by omega)
    subst h1 h2; rw [mrg_nil_l]; exact .refl _
  | n + 1, [], Y, _ => by rw [mrg_nil_l]; exact .refl _
  | n + 1, x :: X, [], _ => by rw [mrg_nil_r, List.append_nil]
  | n + 1, x :: X, y :: Y, h => by
    simp only [List.length_cons] at h
    by_cases hc : c y x < 0
    · rw [mrg_lt hc]
      have ih := mrg_perm c n (x :: X) Y (by simp only [List.length_cons]; omega)
      exact (ih.cons y).trans (List.perm_middle.symm)
    · rw [mrg_ge hc]
      have ih := mrg_perm c n X (y :: Y) (by simp only [List.length_cons]; omega)
      exact ih.cons x
theorem mrg_mem {X Y : List α} {z : α} : z ∈ mrg c X Y ↔ z ∈ X ∨ z ∈ Y := by
  rw [(mrg_perm c _ X Y (Nat.le_refl _)).mem_iff, List.mem_append]
theorem mrg_sorted (P : Pre c) : ∀ (n : Nat) (X Y : List α), X.length + Y.length ≤ n → srtB c X = true → srtB c Y = true → srtB c (mrg c X Y) = true
  | 0, X, Y, h, hX, hY => by
    have h1 : X = [] := List.eq_nil_of_length_eq_zero (by omega)
    subst h1; rw [mrg_nil_l]; exact hY
  | n + 1, [], Y, _, _, hY => by rw [mrg_nil_l]; exact hY
  | n + 1, x :: X, [], _, hX, _ => by rw [mrg_nil_r]; exact hX
  | n + 1, x :: X, y :: Y, h, hX, hY => by
    simp only [List.length_cons] at h
    have hx := srtB_cons.1 hX
    have hy := srtB_cons.1 hY
    by_cases hc : c y x < 0
    · rw [mrg_lt hc]
      refine srtB_cons.2 ⟨fun z hz => ?_, mrg_sorted P n (x :: X) Y (by simp only [List.length_cons]; omega) hX hy.2⟩
      rcases mrg_mem.1 hz with hz | hz
      · rcases List.mem_cons.1 hz with rfl | hz
        · omega
        · exact P.trans _ _ _ (by omega) (hx.1 z hz)
      · exact hy.1 z hz
    · rw [mrg_ge hc]
      have hxy : c x y ≤ 0 := by rw [P.anti y x]; omega
      refine srtB_cons.2 ⟨fun z hz => ?_, mrg_sorted P n X (y :: Y) (by simp only [List.length_cons]; omega) hx.2 hY⟩
      rcases mrg_mem.1 hz with hz | hz
      · exact hx.1 z hz
      · rcases List.mem_cons.1 hz with rfl | hz
        · exact hxy
        · exact P.trans _ _ _ hxy (hy.1 z hz)

/-- What stands ahead on both sides is merged ahead. -/
theorem mrg_split (c : α → α → Int) : ∀ (n : Nat) (X1 X2 Y1 Y2 : List α), X1.length + Y1.length ≤ n →
    (∀ x ∈ X1, ∀ y ∈ Y2, ¬ c y x < 0) → (∀ y ∈ Y1, ∀ x ∈ X2, c y x < 0) → mrg c (X1 ++ X2) (Y1 ++ Y2) = mrg c X1 Y1 ++ mrg c X2 Y2
  | 0, X1, X2, Y1, Y2, h, _, _ => by
    have h1 : X1 = [] := List.eq_nil_of_length_eq_zero (by omega)
    have h2 : Y1 = [] := List.eq_nil_of_length_eq_zero (by omega)
    subst h1 h2; simp [mrg_nil_l]
  | n + 1, [], X2, [], Y2, _, _, _ => by simp [mrg_nil_l]
  | n + 1, [], [], y :: Y1, Y2, _, _, _ => by simp [mrg_nil_l]
  | n + 1, [], x :: X2, y :: Y1, Y2, h, h1, h2 => by
    have ih := mrg_split c n [] (x :: X2) Y1 Y2 (by simp only [List.length_cons, List.length_nil] at h ⊢; omega) h1 (fun z hz => h2 z (by simp [hz]))
    rw [List.nil_append, mrg_nil_l] at ih ⊢
    rw [List.cons_append, mrg_lt (h2 y (by simp) x (by simp)), ih, List.cons_append]
  | n + 1, x :: X1, X2, [], [], _, _, _ => by simp [mrg_nil_r]
  | n + 1, x :: X1, X2, [], y :: Y2, h, h1, h2 => by
    have ih := mrg_split c n X1 X2 [] (y :: Y2) (by simp only [List.length_cons, List.length_nil] at h ⊢; omega) (fun z hz => h1 z (by simp [hz])) h2
    rw [List.nil_append, mrg_nil_r] at ih ⊢
    rw [List.cons_append, mrg_ge (h1 x (by simp) y (by simp)), ih, List.cons_append]
  | n + 1, x :: X1, X2, y :: Y1, Y2, h, h1, h2 => by
    simp only [List.length_cons] at h
    by_cases hc : c y x < 0
    · have ih := mrg_split c n (x :: X1) X2 Y1 Y2 (by simp only [List.length_cons]; omega) h1 (fun z hz => h2 z (by simp [hz]))
      rw [List.cons_append, List.cons_append, mrg_lt hc, mrg_lt hc, List.cons_append, ← ih, List.cons_append]
    · have ih := mrg_split c n X1 X2 (y :: Y1) Y2 (by simp only [List.length_cons]; omega) (fun z hz => h1 z (by simp [hz])) h2
      rw [List.cons_append, List.cons_append, mrg_ge hc, mrg_ge hc, List.cons_append, ← ih, List.cons_append]
/-- one element into a sorted row, from either side -/
theorem mrg_one_l {x : α} {Y1 Y2 : List α} (h1 : ∀ y ∈ Y1, c y x < 0) (h2 : ∀ y ∈ Y2, ¬ c y x < 0) : mrg c [x] (Y1 ++ Y2) = Y1 ++ x :: Y2 := by
  have := mrg_split c _ [] [x] Y1 Y2 (Nat.le_refl _) (by simp) (by simpa using h1)
  rw [List.nil_append, mrg_nil_l] at this
  rw [this]
  congr 1
  cases Y2 with
  | nil => rw [mrg_nil_r]
  | cons y Y => rw [mrg_ge (h2 y (by simp)), mrg_nil_l]
theorem mrg_one_r {y : α} {X1 X2 : List α} (h1 : ∀ x ∈ X1, ¬ c y x < 0) (h2 : ∀ x ∈ X2, c y x < 0) : mrg c (X1 ++ X2) [y] = X1 ++ y :: X2 := by
  have := mrg_split c _ X1 X2 [] [y] (Nat.le_refl _) (by simpa using h1) (by simp)
  rw [List.nil_append, mrg_nil_r] at this
  rw [this]
  congr 1
  cases X2 with
  | nil => rw [mrg_nil_l]
  | cons x X => rw [mrg_lt (h2 x (by simp)), mrg_nil_r]

theorem insE_perm (c : α → α → Int) (acc : List α) (x : α) : (insE c acc x).Perm (acc ++ [x]) := by
  unfold insE
  have h : acc = (acc.reverse.dropWhile fun y => decide (c x y < 0)).reverse ++ (acc.reverse.takeWhile fun y => decide (c x y < 0)).reverse := by
    rw [← List.reverse_append, List.takeWhile_append_dropWhile, List.reverse_reverse]
  refine List.perm_middle.trans ?_
  rw [← h]
  exact (List.perm_append_singleton x acc).symm
theorem mem_takeWhile {p : α → Bool} : ∀ {l : List α} {z : α}, z ∈ l.takeWhile p → p z = true
  | [], z, h => by simp at h
  | x :: r, z, h => by
    rw [List.takeWhile_cons] at h
    split at h
    · rename_i hp
      rcases List.mem_cons.1 h with rfl | h
      · exact hp
      · exact mem_takeWhile h
    · simp at h
theorem insE_sorted (P : Pre c) {acc : List α} {x : α} (h : srtB c acc = true) : srtB c (insE c acc x) = true := by
  unfold insE
  have hs : acc = (acc.reverse.dropWhile fun y => decide (c x y < 0)).reverse ++ (acc.reverse.takeWhile fun y => decide (c x y < 0)).reverse := by
    rw [← List.reverse_append, List.takeWhile_append_dropWhile, List.reverse_reverse]
  rw [hs] at h
  have hT : ∀ y ∈ (acc.reverse.takeWhile fun y => decide (c x y < 0)).reverse, c x y < 0 := fun y hy => by
    have := mem_takeWhile (List.mem_reverse.1 hy); simpa using this
  have hD : (acc.reverse.dropWhile fun y => decide (c x y < 0)) = [] ∨ ∃ y r, (acc.reverse.dropWhile fun y => decide (c x y < 0)) = y :: r ∧ ¬ c x y < 0 := by
    cases hq : acc.reverse.dropWhile fun y => decide (c x y < 0) with
    | nil => exact .inl rfl
    | cons y r =>
      refine .inr ⟨y, r, rfl, ?_⟩
      have := List.head?_dropWhile_not (fun y => decide (c x y < 0)) acc.reverse
      rw [hq] at this; simpa using this
  revert h hT hD
  generalize (acc.reverse.takeWhile fun y => decide (c x y < 0)).reverse = T
  generalize (acc.reverse.dropWhile fun y => decide (c x y < 0)) = D
  clear hs
  intro h hT hD
  obtain ⟨h1, h2, h3⟩ := srtB_append.1 h
  refine srtB_append.2 ⟨h1, srtB_cons.2 ⟨fun y hy => by have := hT y hy; omega, h2⟩, fun z hz y hy => ?_⟩
  rcases List.mem_cons.1 hy with rfl | hy
  · rcases hD with rfl | ⟨w, r, rfl, hw⟩
    · simp at hz
    · have hwx : c w y ≤ 0 := by rw [P.anti y w]; omega
      rw [List.reverse_cons] at h1 hz
      rcases List.mem_append.1 hz with hz | hz
      · exact P.trans _ _ _ ((srtB_append.1 h1).2.2 z hz w (by simp)) hwx
      · rw [List.mem_singleton.1 hz]; exact hwx
  · exact h3 z hz y hy
theorem isort_fold (P : Pre c) : ∀ (l acc : List α), srtB c acc = true → srtB c (l.foldl (insE c) acc) = true ∧ (l.foldl (insE c) acc).Perm (acc ++ l)
  | [], acc, h => ⟨h, by simp⟩
  | x :: r, acc, h => by
    obtain ⟨h1, h2⟩ := isort_fold P r (insE c acc x) (insE_sorted P h)
    refine ⟨h1, h2.trans ?_⟩
    have := (insE_perm c acc x).append_right r
    rwa [List.append_assoc] at this
theorem isort_ok (P : Pre c) (l : List α) : srtB c (isort c l) = true ∧ (isort c l).Perm l := by
  have := isort_fold P l [] rfl
  simpa [isort] using this
/-- Of elements of which no two are of one rank there is one sorted row. -/
theorem sorted_unique (P : Pre c) : ∀ {a b : List α}, srtB c a = true → srtB c b = true → a.Perm b → (∀ x ∈ a, ∀ y ∈ a, c x y = 0 → x = y) → a = b
  | [], b, _, _, h, _ => by rw [h.symm.eq_nil]
  | x :: r, [], _, _, h, _ => by have := h.eq_nil; cases this
  | x :: r, y :: q, ha, hb, h, hu => by
    have hx := srtB_cons.1 ha
    have hy := srtB_cons.1 hb
    have e : x = y := by
      have hyx : y ∈ x :: r := h.mem_iff.2 (by simp)
      have hxy : x ∈ y :: q := h.mem_iff.1 (by simp)
      rcases List.mem_cons.1 hyx with e | hyx
      · exact e.symm
      · rcases List.mem_cons.1 hxy with e | hxy
        · exact e
        · have h1 := hx.1 y hyx
          have h2 := hy.1 x hxy
          rw [P.anti x y] at h2
          exact hu x (by simp) y (by simp [hyx]) (by omega)
    subst e
    have ih := sorted_unique P hx.2 hy.2 (h.cons_inv) (fun z hz w hw => hu z (by simp [hz]) w (by simp [hw]))
    rw [ih]
end Go.Proofs.Ytljfolepmkcjlaa.Srt

/-
  Slices that are sorted in place: the frames.
-/
namespace Go.Proofs.Ytljfolepmkcjlaa
open Go.RowKit Plain Am IntWalk
set_option maxRecDepth 100000

/-- the functions that are handed an array by reference -/
def refs : Nat → Bool := fun f => [72, 74, 87, 88, 100, 101, 104, 105].any (Nat.beq f)
noncomputable def cfB (l : List (Nat × Ent)) : Cfg := { E := Env.of Try.prog, K := konOf l, byref := refs, callOk := cok }
theorem cfB_ok {l : List (Nat × Ent)} (h : EntsOk Try.prog l) : Ok Try.prog (cfB l) := ⟨⟨rfl, konOf_ok h, fun _ h => h⟩, mixed⟩
def cmpv : RV := .clo (.func 39) [] []
abbrev chT : Nat := 46
/-- an own array of changes -/
def arC (l : List DV) : List PObj := [.arr 46 4 l]
end Go.Proofs.Ytljfolepmkcjlaa

/-
  Swapping ranges and rotating, run.
-/
namespace Go.Proofs.Ytljfolepmkcjlaa
open Go.RowKit Plain Am IntWalk
set_option maxRecDepth 100000
set_option linter.unusedVariables false
set_option linter.unusedSimpArgs false

noncomputable abbrev swC : Code := bodyOf Try.f105
def swS (l : List DV) (a b n i : Int) : ESt := { n := 38, m := 1, regs := T.mk [(0, .own 0 4), (1, .d (.int .i64 a)), (2, .d (.int .i64 b)), (3, .d (.int .i64 n)), (10, .d (.int .i64 i))], objs := T.mk [(0, .arr 46 4 l)] }
noncomputable abbrev roC' : Code := bodyOf Try.f104
def roS (l : List DV) (m i j : Int) : ESt := { n := 58, m := 1, regs := T.mk [(0, .own 0 4), (2, .d (.int .i64 m)), (4, cmpv), (10, .d (.int .i64 i)), (11, .d (.int .i64 j))], objs := T.mk [(0, .arr 46 4 l)] }
noncomputable abbrev inC : Code := bodyOf Try.f100
def inS (l : List DV) (a b i : Int) : ESt := { n := 53, m := 1, regs := T.mk [(0, .own 0 4), (1, .d (.int .i64 a)), (2, .d (.int .i64 b)), (3, cmpv), (8, .d (.int .i64 i))], objs := T.mk [(0, .arr 46 4 l)] }
def inJ (l : List DV) (a b i j : Int) : ESt := { n := 53, m := 1, regs := T.mk [(0, .own 0 4), (1, .d (.int .i64 a)), (2, .d (.int .i64 b)), (3, cmpv), (8, .d (.int .i64 i)), (9, .d (.int .i64 j))], objs := T.mk [(0, .arr 46 4 l)] }
/-- parts of a list -/
def part {α : Type} (l : List α) (a b : Nat) : List α := (l.take b).drop a
def swapL {α : Type} (l : List α) (a b n : Nat) : List α := l.take a ++ part l b (b + n) ++ part l (a + n) b ++ part l a (a + n) ++ l.drop (b + n)
def rotL {α : Type} (l : List α) (a m b : Nat) : List α := l.take a ++ part l m b ++ part l a m ++ l.drop b
def swE : Ent := fun a o => match a, o with
  | [.own 0 4, .d (.int .i64 p), .d (.int .i64 q), .d (.int .i64 n), _], [.arr T 4 els] =>
    some (.tup [], [.arr T 4 (swapL els p.toNat q.toNat n.toNat)], [Nat.beq T chT, els.all isC, decide (0 ≤ p), decide (0 ≤ n), decide (p + n ≤ q), decide (q + n ≤ els.length), decide (els.length ≤ 65536)])
  | _, _ => none
theorem set_mid {α : Type} (P : List α) (x y : α) (R : List α) (k : Nat) (h : k = P.length) : (P ++ x :: R).set k y = P ++ y :: R := by subst h; simp
theorem get_mid {α : Type} (P : List α) (x : α) (R : List α) (k : Nat) (h : k = P.length) : (P ++ x :: R)[k]? = some x := by subst h; simp
theorem getD_of {l : List Chg} {i : Nat} {x : Chg} (h : l[i]? = some x) : (l.map chD).getD i .nilp = chD x := by
  rw [List.getD_eq_getElem?_getD, List.getElem?_map, h]; rfl
theorem map_set' (l : List Chg) (i : Nat) (x : Chg) : (l.map chD).set i (chD x) = (l.set i x).map chD := by rw [List.map_set]
theorem all_isC {l : List Chg} (h : ∀ c ∈ l, Chg.ok c) : (l.map chD).all isC = true := by
  simp only [List.all_eq_true, List.mem_map]
  rintro x ⟨c, hc, rfl⟩
  exact isC_chD (h c hc)
theorem lt_of_some {α : Type} {l : List α} {i : Nat} {x : α} (h : l[i]? = some x) : i < l.length := (List.getElem?_eq_some_iff.1 h).1
theorem ov_load {l : List Chg} {i : Nat} {x : Chg} (h : l[i]? = some x) : RVle (.d (.agg (List.take 4 (List.drop 0 ((l.map chD).getD (Nat.cast (R := Int) i).toNat .nilp).cells)))) (.d (chD x)) := .of_eq (by rw [Int.toNat_natCast, getD_of h]; rfl)
theorem bd_ble {l : List Chg} {i : Nat} {x : Chg} (h : l[i]? = some x) : Nat.ble 4 ((l.map chD).getD (Nat.cast (R := Int) i).toNat .nilp).cells.length = true := by rw [Int.toNat_natCast, getD_of h]; rfl
theorem bd_in {l : List Chg} {i : Nat} {x : Chg} (h : l[i]? = some x) : decide ((0 : Int) ≤ (Nat.cast (R := Int) i) ∧ (Nat.cast (R := Int) i) < (Nat.cast (R := Int) (l.map chD).length)) = true := by
  have := lt_of_some h
  refine decide_eq_true ?_; rw [List.length_map]; omega
theorem bd_in2 {l : List Chg} {i : Nat} {x : Chg} (h : l[i]? = some x) : decide ((Nat.cast (R := Int) i).toNat < (l.map chD).length) = true := by
  have := lt_of_some h
  refine decide_eq_true ?_; rw [List.length_map]; omega
theorem part_eq {α : Type} (A X B : List α) (a b : Nat) (ha : a = A.length) (hb : b = A.length + X.length) : part (A ++ (X ++ B)) a b = X := by
  subst ha hb
  unfold part
  rw [← List.append_assoc, List.take_left' (by simp), List.drop_left' rfl]
theorem part_map {α β : Type} (f : α → β) (l : List α) (a b : Nat) : part (l.map f) a b = (part l a b).map f := by unfold part; rw [List.map_drop, List.map_take]
theorem swapL_map {α β : Type} (f : α → β) (l : List α) (a b n : Nat) : swapL (l.map f) a b n = (swapL l a b n).map f := by
  simp only [swapL, part_map, List.map_append, List.map_take, List.map_drop]
theorem swapL_eq {α : Type} (A X M Y B : List α) (a b n : Nat) (ha : a = A.length) (hb : b = A.length + X.length + M.length) (hx : X.length = n) (hy : Y.length = n) :
    swapL (A ++ (X ++ (M ++ (Y ++ B)))) a b n = A ++ (Y ++ (M ++ (X ++ B))) := by
  unfold swapL
  rw [part_eq A X _ a (a + n) ha (by omega)]
  have h1 : part (A ++ (X ++ (M ++ (Y ++ B)))) (a + n) b = M := by
    rw [← List.append_assoc]; exact part_eq (A ++ X) M _ _ _ (by simp; omega) (by simp; omega)
  have h2 : part (A ++ (X ++ (M ++ (Y ++ B)))) b (b + n) = Y := by
    rw [← List.append_assoc, ← List.append_assoc]; exact part_eq (A ++ X ++ M) Y _ _ _ (by simp; omega) (by simp; omega)
  have h3 : (A ++ (X ++ (M ++ (Y ++ B)))).drop (b + n) = B := by
    rw [← List.append_assoc, ← List.append_assoc, ← List.append_assoc]
    exact List.drop_left' (by simp; omega)
  rw [h1, h2, h3, List.take_left' ha.symm]
  simp only [List.append_assoc]
theorem part_len {α : Type} {l : List α} {a b : Nat} (h : b ≤ l.length) : (part l a b).length = b - a := by
  unfold part; rw [List.length_drop, List.length_take]; omega
theorem parts2 {α : Type} (l : List α) (a b : Nat) (h : a ≤ b) : l.drop a = part l a b ++ l.drop b := by
  unfold part
  conv => lhs; rw [← List.take_append_drop b l]
  rcases Nat.lt_or_ge l.length a with h1 | h1
  · rw [List.drop_eq_nil_of_le (by simp; omega), List.drop_eq_nil_of_le (by simp; omega), List.drop_eq_nil_of_le (by omega)]; rfl
  · rw [List.drop_append, List.length_take]
    rcases Nat.lt_or_ge l.length b with h2 | h2
    · have : (l.drop b) = [] := List.drop_eq_nil_of_le (by omega)
      rw [this]; simp
    · rw [show a - min b l.length = 0 by omega, List.drop_zero]
theorem parts5 {α : Type} (l : List α) (a b n : Nat) (h : a + n ≤ b) : l = l.take a ++ (part l a (a + n) ++ (part l (a + n) b ++ (part l b (b + n) ++ l.drop (b + n)))) := by
  rw [← parts2 l b (b + n) (by omega), ← parts2 l (a + n) b h, ← parts2 l a (a + n) (by omega), List.take_append_drop]
abbrev EndsB (f : List ResultVar) (l : List DV) : SSt → Prop := fun s => ∃ r objs' c, finish (Env.of Try.prog) false 1 f s.R s.O = some (r, objs', c) ∧ (∀ b ∈ c, b = true) ∧ r = .tup [] ∧ objs' = arC l

set_option maxHeartbeats 2000000 in
theorem sw_c (A X M Y B : List Chg) (hxy : X.length = Y.length) (hok : okL (A ++ (X ++ (M ++ (Y ++ B))))) (v : RV) :
    C Try.prog 105 [.own 0 4, .d (.int .i64 (A.length : Int)), .d (.int .i64 ((A.length + X.length + M.length : Nat) : Int)), .d (.int .i64 (X.length : Int)), v] (arC ((A ++ (X ++ (M ++ (Y ++ B)))).map chD))
      (fun r o => r = .tup [] ∧ o = arC ((A ++ (Y ++ (M ++ (X ++ B)))).map chD)) := by
  have ok := cfB_ok (l := []) .nil
  refine C_of_run (fn := Try.f105) (body := swC) false (by kernel_rfl) (by kernel_rfl) (by kernel_rfl) ?_
  obtain ⟨a, ha⟩ : ∃ a, A.length = a := ⟨_, rfl⟩
  obtain ⟨n, hn⟩ : ∃ n, X.length = n := ⟨_, rfl⟩
  obtain ⟨b, hb⟩ : ∃ b, A.length + X.length + M.length = b := ⟨_, rfl⟩
  have hlen : A.length + (X.length + (M.length + (Y.length + B.length))) ≤ 65536 := by simpa using hok.1
  obtain ⟨T, hT⟩ : ∃ T, A ++ (Y ++ (M ++ (X ++ B))) = T := ⟨_, rfl⟩
  have hloop : WK Try.prog 1 (stackAt swC 0) (swS ((A ++ (X ++ (M ++ (Y ++ B)))).map chD) (a : Int) (b : Int) (n : Int) 0).den (EndsB (Try.f105.results.toList) (T.map chD)) := by
    have key := WK.rec' (P := Try.prog) (m := 1) (k := stackAt swC 0) (Q := EndsB (Try.f105.results.toList) (T.map chD)) (fun (i : Nat) => swS ((A ++ (Y.take i ++ (X.drop i ++ (M ++ (X.take i ++ (Y.drop i ++ B)))))).map chD) (a : Int) (b : Int) (n : Int) (i : Int)) (fun i => i ≤ n) (fun i => n - i) ?_ 0 (Nat.zero_le _)
    · simpa using key
    intro i hi ih
    by_cases hlt : i < n
    · obtain ⟨x, hx⟩ : ∃ x, X[i]'(by omega) = x := ⟨_, rfl⟩
      obtain ⟨y, hy⟩ : ∃ y, Y[i]'(by omega) = y := ⟨_, rfl⟩
      have ex : X.drop i = x :: X.drop (i + 1) := by rw [List.drop_eq_getElem_cons (by omega), hx]
      have ey : Y.drop i = y :: Y.drop (i + 1) := by rw [List.drop_eq_getElem_cons (by omega), hy]
      have tx : X.take (i + 1) = X.take i ++ [x] := by rw [List.take_add_one, List.getElem?_eq_getElem (by omega), hx]; rfl
      have ty : Y.take (i + 1) = Y.take i ++ [y] := by rw [List.take_add_one, List.getElem?_eq_getElem (by omega), hy]; rfl
      have lyi : (Y.take i).length = i := by rw [List.length_take]; omega
      have lxi : (X.take i).length = i := by rw [List.length_take]; omega
      have lxd : (X.drop (i + 1)).length = n - i - 1 := by rw [List.length_drop]; omega
      have hnx := ih (i + 1) hlt (by omega)
      have e0 : A ++ (Y.take i ++ (X.drop i ++ (M ++ (X.take i ++ (Y.drop i ++ B))))) = (A ++ Y.take i) ++ x :: (X.drop (i + 1) ++ (M ++ (X.take i ++ (y :: (Y.drop (i + 1) ++ B))))) := by
        rw [ex, ey]; simp only [List.append_assoc, List.cons_append]
      have e1 : (A ++ Y.take i) ++ x :: (X.drop (i + 1) ++ (M ++ (X.take i ++ (y :: (Y.drop (i + 1) ++ B))))) = (A ++ (Y.take i ++ (x :: (X.drop (i + 1) ++ (M ++ X.take i))))) ++ y :: (Y.drop (i + 1) ++ B) := by
        simp only [List.append_assoc, List.cons_append]
      have e2 : ((((A ++ Y.take i) ++ x :: (X.drop (i + 1) ++ (M ++ (X.take i ++ (y :: (Y.drop (i + 1) ++ B)))))).set (a + i) y).set (b + i) x) = A ++ (Y.take (i + 1) ++ (X.drop (i + 1) ++ (M ++ (X.take (i + 1) ++ (Y.drop (i + 1) ++ B))))) := by
        rw [set_mid _ _ _ _ _ (by simp; omega)]
        have : (A ++ Y.take i) ++ y :: (X.drop (i + 1) ++ (M ++ (X.take i ++ (y :: (Y.drop (i + 1) ++ B))))) = (A ++ (Y.take i ++ (y :: (X.drop (i + 1) ++ (M ++ X.take i))))) ++ y :: (Y.drop (i + 1) ++ B) := by simp only [List.append_assoc, List.cons_append]
        rw [this, set_mid _ _ _ _ _ (by simp; omega), tx, ty]
        simp only [List.append_assoc, List.cons_append, List.nil_append]
      rw [← e2] at hnx
      rw [e0]
      obtain ⟨p, hp⟩ : ∃ p, a + i = p := ⟨_, rfl⟩
      obtain ⟨q, hq⟩ : ∃ q, b + i = q := ⟨_, rfl⟩
      have gx : ((A ++ Y.take i) ++ x :: (X.drop (i + 1) ++ (M ++ (X.take i ++ (y :: (Y.drop (i + 1) ++ B))))))[p]? = some x := get_mid _ _ _ _ (by simp; omega)
      have gy : ((A ++ Y.take i) ++ x :: (X.drop (i + 1) ++ (M ++ (X.take i ++ (y :: (Y.drop (i + 1) ++ B))))))[q]? = some y := by rw [e1]; exact get_mid _ _ _ _ (by simp; omega)
      rw [hp, hq] at hnx
      have hLl : ((A ++ Y.take i) ++ x :: (X.drop (i + 1) ++ (M ++ (X.take i ++ (y :: (Y.drop (i + 1) ++ B)))))).length ≤ 65536 := by simp only [List.length_append, List.length_cons, lyi, lxi, lxd, List.length_drop]; omega
      generalize ((A ++ Y.take i) ++ x :: (X.drop (i + 1) ++ (M ++ (X.take i ++ (y :: (Y.drop (i + 1) ++ B)))))) = L at *
      have hlq := lt_of_some gy
      have hset : ((L.map chD).set p (chD y)).length = (L.map chD).length := List.length_set ..
      have hml : (L.map chD).length = L.length := List.length_map ..
      rcases Bool.eq_false_or_eq_true (decide ((Nat.cast (R := Int) i) < (Nat.cast (R := Int) n)) : Bool) with h13 | h13
      · skip
        refine WK.segA ok 1000 0 [(19, RV.d (DV.int Go.IntKind.i64 (Nat.cast (R := Int) p))), (23, RV.d (DV.int Go.IntKind.i64 (Nat.cast (R := Int) q))), (27, RV.d (DV.int Go.IntKind.i64 (Nat.cast (R := Int) q))), (33, RV.d (DV.int Go.IntKind.i64 (Nat.cast (R := Int) p))), (29, RV.d (DV.agg [DV.str y.1, DV.lst 3 (List.map vD y.2) false, DV.lst 3 (List.map vD y.3) false, DV.lst 3 (List.map vD y.4) false])), (35, RV.d (DV.agg [DV.str x.1, DV.lst 3 (List.map vD x.2) false, DV.lst 3 (List.map vD x.3) false, DV.lst 3 (List.map vD x.4) false])), (15, RV.d (DV.int Go.IntKind.i64 (Nat.cast (R := Int) (i + 1)))), (13, RV.d (DV.bool true))] [] [0, 1, 2, 3, 10] [decide (0 ≤ (Nat.cast (R := Int) q) ∧ (Nat.cast (R := Int) q) < (Nat.cast (R := Int) (L.map chD).length)), decide ((Nat.cast (R := Int) q).toNat < (L.map chD).length), Nat.ble 4 ((L.map chD).getD (Nat.cast (R := Int) q).toNat DV.nilp).cells.length, decide (0 ≤ (Nat.cast (R := Int) p) ∧ (Nat.cast (R := Int) p) < (Nat.cast (R := Int) (L.map chD).length)), decide ((Nat.cast (R := Int) p).toNat < (L.map chD).length), Nat.ble 4 ((L.map chD).getD (Nat.cast (R := Int) p).toNat DV.nilp).cells.length, decide (0 ≤ (Nat.cast (R := Int) p) ∧ (Nat.cast (R := Int) p) < (Nat.cast (R := Int) (L.map chD).length)), decide ((Nat.cast (R := Int) p).toNat < (L.map chD).length), decide (0 ≤ (Nat.cast (R := Int) q) ∧ (Nat.cast (R := Int) q) < (Nat.cast (R := Int) ((L.map chD).set (Nat.cast (R := Int) p).toNat (chD y)).length)), decide ((Nat.cast (R := Int) q).toNat < ((L.map chD).set (Nat.cast (R := Int) p).toNat (chD y)).length)] [(RV.d (DV.bool (decide ((Nat.cast (R := Int) i) < (Nat.cast (R := Int) n)))), RV.d (DV.bool true)), (RV.d (DV.int Go.IntKind.i64 (Go.IntKind.i64.wrap ((Nat.cast (R := Int) a) + (Nat.cast (R := Int) i)))), RV.d (DV.int Go.IntKind.i64 (Nat.cast (R := Int) p))), (RV.d (DV.int Go.IntKind.i64 (Go.IntKind.i64.wrap ((Nat.cast (R := Int) b) + (Nat.cast (R := Int) i)))), RV.d (DV.int Go.IntKind.i64 (Nat.cast (R := Int) q))), (RV.d (DV.int Go.IntKind.i64 (Go.IntKind.i64.wrap ((Nat.cast (R := Int) b) + (Nat.cast (R := Int) i)))), RV.d (DV.int Go.IntKind.i64 (Nat.cast (R := Int) q))), (RV.d (DV.agg (List.take 4 (List.drop 0 ((L.map chD).getD (Nat.cast (R := Int) q).toNat DV.nilp).cells))), RV.d (DV.agg [DV.str y.1, DV.lst 3 (List.map vD y.2) false, DV.lst 3 (List.map vD y.3) false, DV.lst 3 (List.map vD y.4) false])), (RV.d (DV.int Go.IntKind.i64 (Go.IntKind.i64.wrap ((Nat.cast (R := Int) a) + (Nat.cast (R := Int) i)))), RV.d (DV.int Go.IntKind.i64 (Nat.cast (R := Int) p))), (RV.d (DV.agg (List.take 4 (List.drop 0 ((L.map chD).getD (Nat.cast (R := Int) p).toNat DV.nilp).cells))), RV.d (DV.agg [DV.str x.1, DV.lst 3 (List.map vD x.2) false, DV.lst 3 (List.map vD x.3) false, DV.lst 3 (List.map vD x.4) false])), (RV.d (DV.int Go.IntKind.i64 (Go.IntKind.i64.wrap ((Nat.cast (R := Int) i) + 1))), RV.d (DV.int Go.IntKind.i64 (Nat.cast (R := Int) (i + 1))))] rfl (by kernel_rfl : runSegA (cfB []) 1000 0 _ _ _ _ (swS (L.map chD) (a : Int) (b : Int) (n : Int) (i : Int)) = some (stackAt swC 0, swS (((L.map chD).set (Nat.cast (R := Int) p).toNat (DV.agg [DV.str y.1, DV.lst 3 (List.map vD y.2) false, DV.lst 3 (List.map vD y.3) false, DV.lst 3 (List.map vD y.4) false])).set (Nat.cast (R := Int) q).toNat (DV.agg [DV.str x.1, DV.lst 3 (List.map vD x.2) false, DV.lst 3 (List.map vD x.3) false, DV.lst 3 (List.map vD x.4) false])) (a : Int) (b : Int) (n : Int) ((i + 1 : Nat) : Int), _, _)) (by refine ⟨?_, ?_, ?_, ?_, ?_, ?_, ?_, ?_, ?_, ?_, trivial⟩ <;> (first | exact bd_in gy | exact bd_in2 gy | exact bd_ble gy | exact bd_in gx | exact bd_in2 gx | exact bd_ble gx | (refine decide_eq_true ?_; simp only [Int.toNat_natCast, List.length_set, List.length_map]; omega))) (by refine ⟨le_bool h13, ?_, ?_, ?_, ?_, ?_, ?_, ?_, trivial⟩ <;> (first | exact le_bool (decide_eq_true (by omega)) | exact ov_load gx | exact ov_load gy | (refine .of_eq (congrArg (fun z : Int => RV.d (.int .i64 z)) ?_); rw [i64_in _ (by omega)]; omega))) ?_
        show WK Try.prog 1 (stackAt swC 0) (swS (((L.map chD).set (p : Int).toNat (chD y)).set (q : Int).toNat (chD x)) (a : Int) (b : Int) (n : Int) ((i + 1 : Nat) : Int)).den _
        rw [Int.toNat_natCast, Int.toNat_natCast, map_set', map_set']
        exact hnx
      · skip
        exact WK.fin ok 1000 0 [(19, RV.d (DV.int Go.IntKind.i64 (Nat.cast (R := Int) p))), (23, RV.d (DV.int Go.IntKind.i64 (Nat.cast (R := Int) q))), (27, RV.d (DV.int Go.IntKind.i64 (Nat.cast (R := Int) q))), (33, RV.d (DV.int Go.IntKind.i64 (Nat.cast (R := Int) p))), (29, RV.d (DV.agg [DV.str y.1, DV.lst 3 (List.map vD y.2) false, DV.lst 3 (List.map vD y.3) false, DV.lst 3 (List.map vD y.4) false])), (35, RV.d (DV.agg [DV.str x.1, DV.lst 3 (List.map vD x.2) false, DV.lst 3 (List.map vD x.3) false, DV.lst 3 (List.map vD x.4) false])), (15, RV.d (DV.int Go.IntKind.i64 (Nat.cast (R := Int) (i + 1)))), (13, RV.d (DV.bool false))] [] [(RV.d (DV.bool (decide ((Nat.cast (R := Int) i) < (Nat.cast (R := Int) n)))), RV.d (DV.bool false))] rfl (by kernel_rfl : runEnd (cfB []) false _ 1000 0 _ _ (swS (L.map chD) (a : Int) (b : Int) (n : Int) (i : Int)) = some (RV.tup [], [PObj.arr 46 4 (L.map chD)], _, _)) trivial ⟨le_bool h13, trivial⟩ (by exfalso; have := of_decide_eq_false h13; omega)
    · have e : i = n := by omega
      have h13 : decide ((Nat.cast (R := Int) i) < (Nat.cast (R := Int) n)) = false := decide_eq_false (by omega)
      have eL : A ++ (Y.take i ++ (X.drop i ++ (M ++ (X.take i ++ (Y.drop i ++ B))))) = T := by
        rw [← hT, List.take_of_length_le (by omega), List.drop_eq_nil_of_le (by omega), List.take_of_length_le (by omega), List.drop_eq_nil_of_le (by omega)]
        rfl
      rw [eL]
      exact WK.fin ok 1000 0 [(13, .d (.bool false))] [] [(.d (.bool (decide ((Nat.cast (R := Int) i) < (Nat.cast (R := Int) n)))), .d (.bool false))] rfl (by kernel_rfl : runEnd (cfB []) false _ 1000 0 _ _ (swS (T.map chD) (a : Int) (b : Int) (n : Int) (i : Int)) = some (.tup [], arC (T.map chD), _, _)) trivial ⟨le_bool h13, trivial⟩ ⟨rfl, rfl⟩
  rw [hb, ha, hn, hT]
  generalize hL : A ++ (X ++ (M ++ (Y ++ B))) = L at hloop
  refine WK.segA ok 1000 0 [] [] [0, 1, 2, 3, 10] [] [] rfl (by kernel_rfl : runSegA (cfB []) 1000 0 _ _ _ _ (ini 38 [.own 0 4, .d (.int .i64 (a : Int)), .d (.int .i64 (b : Int)), .d (.int .i64 (n : Int)), v] (arC (L.map chD))) = some (stackAt swC 0, swS (L.map chD) (a : Int) (b : Int) (n : Int) 0, _, _)) trivial trivial ?_
  exact hloop
theorem sw_ent : EntOk Try.prog 105 swE := by
  intro a o r o' c hg hc
  unfold swE at hg
  split at hg
  · rename_i p q n v T els
    simp only [Option.some.injEq, Prod.mk.injEq] at hg
    obtain ⟨rfl, rfl, rfl⟩ := hg
    have hT := nbE (hc (Nat.beq T chT) (by simp))
    have h1 := hc (els.all isC) (by simp)
    have h2 := of_decide_eq_true (hc (decide (0 ≤ p)) (by simp))
    have h3 := of_decide_eq_true (hc (decide (0 ≤ n)) (by simp))
    have h4 := of_decide_eq_true (hc (decide (p + n ≤ q)) (by simp))
    have h5 := of_decide_eq_true (hc (decide (q + n ≤ els.length)) (by simp))
    have h6 := of_decide_eq_true (hc (decide (els.length ≤ 65536)) (by simp))
    subst hT
    obtain ⟨L, hL, hLok⟩ := isL_spec (x := .lst 4 els false) (by simp only [isL, h1, decide_eq_true h6]; rfl)
    have hL' : els = L.map chD := by simpa [chL] using hL
    subst hL'
    rw [List.length_map] at h5 h6
    obtain ⟨p, rfl⟩ : ∃ k : Nat, p = k := ⟨p.toNat, by omega⟩
    obtain ⟨n, rfl⟩ : ∃ k : Nat, n = k := ⟨n.toNat, by omega⟩
    obtain ⟨q, rfl⟩ : ∃ k : Nat, q = k := ⟨q.toNat, by omega⟩
    have e := parts5 L p q n (by omega)
    have l1 : (L.take p).length = p := by rw [List.length_take]; omega
    have l2 : (part L p (p + n)).length = n := by rw [part_len (by omega)]; omega
    have l3 : (part L (p + n) q).length = q - (p + n) := part_len (by omega)
    have l4 : (part L q (q + n)).length = n := by rw [part_len (by omega)]; omega
    have hsw : swapL L p q n = L.take p ++ (part L q (q + n) ++ (part L (p + n) q ++ (part L p (p + n) ++ L.drop (q + n)))) := by
      simp only [swapL, List.append_assoc]
    have := sw_c (L.take p) (part L p (p + n)) (part L (p + n) q) (part L q (q + n)) (L.drop (q + n)) (by omega) (by rw [← e]; exact hLok) v
    rw [← e, l1, l2, l3, show p + n + (q - (p + n)) = q by omega] at this
    simp only [Int.toNat_natCast]
    rw [swapL_map, hsw]
    exact this
  · cases hg
end Go.Proofs.Ytljfolepmkcjlaa

/-
  Rotating, run.
-/
namespace Go.Proofs.Ytljfolepmkcjlaa
open Go.RowKit Plain Am IntWalk
set_option maxRecDepth 100000
set_option linter.unusedVariables false
set_option linter.unusedSimpArgs false

noncomputable def ts1 : List (Nat × Ent) := [(105, swE)]
theorem ts1_ok : EntsOk Try.prog ts1 := .cons sw_ent .nil
theorem ok_perm4 {A X Y B : List Chg} (h : ∀ c ∈ A ++ (Y ++ (X ++ B)), Chg.ok c) : ∀ c ∈ A ++ (X ++ (Y ++ B)), Chg.ok c := by
  intro c hc
  simp only [List.mem_append] at hc h
  rcases hc with hc | hc | hc | hc
  · exact h c (.inl hc)
  · exact h c (.inr (.inr (.inl hc)))
  · exact h c (.inr (.inl hc))
  · exact h c (.inr (.inr (.inr hc)))
set_option maxHeartbeats 2000000 in
theorem rot_c (A X Y B : List Chg) (hx : 1 ≤ X.length) (hy : 1 ≤ Y.length) (hok : okL (A ++ (X ++ (Y ++ B)))) :
    C Try.prog 104 [.own 0 4, .d (.int .i64 (A.length : Int)), .d (.int .i64 ((A.length + X.length : Nat) : Int)), .d (.int .i64 ((A.length + X.length + Y.length : Nat) : Int)), cmpv] (arC ((A ++ (X ++ (Y ++ B))).map chD))
      (fun r o => r = .tup [] ∧ o = arC ((A ++ (Y ++ (X ++ B))).map chD)) := by
  have ok := cfB_ok ts1_ok
  refine C_of_run (fn := Try.f104) (body := roC') false (by kernel_rfl) (by kernel_rfl) (by kernel_rfl) ?_
  obtain ⟨T, hT⟩ : ∃ T, A ++ (Y ++ (X ++ B)) = T := ⟨_, rfl⟩
  have hTok : ∀ c ∈ T, Chg.ok c := by rw [← hT]; exact ok_perm4 hok.2
  have hTl : T.length ≤ 65536 := by
    have := hok.1
    rw [← hT]; simp only [List.length_append] at this ⊢; omega
  obtain ⟨m, hm⟩ : ∃ m, A.length + X.length = m := ⟨_, rfl⟩
  have hloop : WK Try.prog 1 (stackAt roC' 0) (roS ((A ++ (X ++ (Y ++ B))).map chD) (m : Int) (X.length : Int) (Y.length : Int)).den (EndsB (Try.f104.results.toList) (T.map chD)) := by
    refine WK.rec' (fun (q : List Chg × List Chg × List Chg × List Chg) => roS ((q.1 ++ (q.2.1 ++ (q.2.2.1 ++ q.2.2.2))).map chD) (m : Int) (q.2.1.length : Int) (q.2.2.1.length : Int)) (fun q => q.1.length + q.2.1.length = m ∧ 1 ≤ q.2.1.length ∧ 1 ≤ q.2.2.1.length ∧ q.1 ++ (q.2.2.1 ++ (q.2.1 ++ q.2.2.2)) = T) (fun q => q.2.1.length + q.2.2.1.length) ?_ (A, X, Y, B) ⟨hm, hx, hy, hT⟩
    rintro ⟨A', X', Y', B'⟩ ⟨h1, h2, h3, h4⟩ ih
    simp only at h1 h2 h3 h4 ih ⊢
    have hcok : ∀ c ∈ A' ++ (X' ++ (Y' ++ B')), Chg.ok c := ok_perm4 (by rw [h4]; exact hTok)
    have hcl : A'.length + (X'.length + (Y'.length + B'.length)) = (A' ++ (X' ++ (Y' ++ B'))).length := by simp
    have hcl2 : (A' ++ (X' ++ (Y' ++ B'))).length ≤ 65536 := by rw [← h4] at hTl; simp only [List.length_append] at hTl ⊢; omega
    have hall := all_isC hcok
    obtain ⟨i, hi⟩ : ∃ i, X'.length = i := ⟨_, rfl⟩
    obtain ⟨j, hj⟩ : ∃ j, Y'.length = j := ⟨_, rfl⟩
    obtain ⟨p, hp⟩ : ∃ p, m - i = p := ⟨_, rfl⟩
    obtain ⟨l, hl⟩ : ∃ l, (A' ++ (X' ++ (Y' ++ B'))).map chD = l := ⟨_, rfl⟩
    have hll : l.length = (A' ++ (X' ++ (Y' ++ B'))).length := by rw [← hl, List.length_map]
    rw [hl] at hall ⊢
    rw [hi, hj]
    by_cases hij : i = j
    · have e : swapL l p m i = T.map chD := by
        rw [← hl, swapL_map, ← h4]
        congr 1
        exact swapL_eq A' X' [] Y' B' p m i (by omega) (by simp; omega) hi (by omega)
      exact WK.fin ok 1000 0 [(20, RV.d (DV.bool false)), (53, RV.d (DV.int Go.IntKind.i64 (Nat.cast (R := Int) p)))] [true, l.all isC, true, true, decide ((Nat.cast (R := Int) p) + (Nat.cast (R := Int) i) ≤ (Nat.cast (R := Int) m)), decide ((Nat.cast (R := Int) m) + (Nat.cast (R := Int) i) ≤ (Nat.cast (R := Int) l.length)), decide (l.length ≤ 65536)] [(RV.d (DV.bool ((Nat.cast (R := Int) i) != (Nat.cast (R := Int) j))), RV.d (DV.bool false)), (RV.d (DV.int Go.IntKind.i64 (Go.IntKind.i64.wrap ((Nat.cast (R := Int) m) - (Nat.cast (R := Int) i)))), RV.d (DV.int Go.IntKind.i64 (Nat.cast (R := Int) p)))] rfl (by kernel_rfl : runEnd (cfB ts1) false _ 1000 0 _ _ (roS l (m : Int) (i : Int) (j : Int)) = some (RV.tup [], [PObj.arr 46 4 (swapL l (Nat.cast (R := Int) p).toNat (Nat.cast (R := Int) m).toNat (Nat.cast (R := Int) i).toNat)], _, _)) (by refine ⟨?_, ?_, ?_, ?_, ?_, ?_, ?_, trivial⟩ <;> (first | rfl | exact hall | exact decide_eq_true (by omega))) (by refine ⟨?_, ?_, trivial⟩ <;> (first | exact le_bool (bne_eq_false_iff_eq.2 (by omega)) | (refine .of_eq (congrArg (fun z : Int => RV.d (.int .i64 z)) ?_); rw [i64_in _ (by omega)]; omega))) ⟨rfl, by simp only [Int.toNat_natCast]; rw [e]; rfl⟩
    · obtain ⟨k, hk⟩ : ∃ k, (if j < i then i - j else j - i) = k := ⟨_, rfl⟩
      obtain ⟨q, hq⟩ : ∃ q, m + j - i = q := ⟨_, rfl⟩
      have hgt : decide ((Nat.cast (R := Int) j) < (Nat.cast (R := Int) i)) = true → k = i - j ∧ WK Try.prog 1 (stackAt roC' 0) (roS (swapL l p m j) (m : Int) (k : Int) (j : Int)).den (EndsB (Try.f104.results.toList) (T.map chD)) := fun h => by
        have h' := of_decide_eq_true h
        have hji : j < i := by omega
        rw [if_pos hji] at hk
        refine ⟨hk.symm, ?_⟩
        have l1 : (X'.take j).length = j := by rw [List.length_take]; omega
        have l2 : (X'.drop j).length = k := by rw [List.length_drop]; omega
        have hw := ih (A' ++ Y', X'.drop j, X'.take j, B') ⟨by simp only [List.length_append]; omega, by simp only; omega, by simp only; omega, by
          rw [← h4, ← List.append_assoc (X'.take j), List.take_append_drop, List.append_assoc]⟩ (by simp only; omega)
        simp only [l1, l2] at hw
        have e : swapL l p m j = ((A' ++ Y') ++ (X'.drop j ++ (X'.take j ++ B'))).map chD := by
          rw [← hl, swapL_map]
          congr 1
          have := swapL_eq A' (X'.take j) (X'.drop j) Y' B' p m j (by omega) (by omega) l1 hj
          rw [← List.append_assoc (X'.take j), List.take_append_drop] at this
          rw [this]; simp only [List.append_assoc]
        rw [e]; exact hw
      have hle : decide ((Nat.cast (R := Int) j) < (Nat.cast (R := Int) i)) = false → k = j - i ∧ WK Try.prog 1 (stackAt roC' 0) (roS (swapL l p q i) (m : Int) (i : Int) (k : Int)).den (EndsB (Try.f104.results.toList) (T.map chD)) := fun h => by
        have h' := of_decide_eq_false h
        have hji : ¬ j < i := by omega
        rw [if_neg hji] at hk
        refine ⟨hk.symm, ?_⟩
        have l1 : (Y'.take k).length = k := by rw [List.length_take]; omega
        have l2 : (Y'.drop k).length = i := by rw [List.length_drop]; omega
        have hw := ih (A', Y'.drop k, Y'.take k, X' ++ B') ⟨by simp only; omega, by simp only; omega, by simp only; omega, by
          rw [← h4, ← List.append_assoc (Y'.take k), List.take_append_drop]⟩ (by simp only; omega)
        simp only [l1, l2] at hw
        have e : swapL l p q i = (A' ++ (Y'.drop k ++ (Y'.take k ++ (X' ++ B')))).map chD := by
          rw [← hl, swapL_map]
          congr 1
          have := swapL_eq A' X' (Y'.take k) (Y'.drop k) B' p q i (by omega) (by omega) hi l2
          rw [← List.append_assoc (Y'.take k), List.take_append_drop] at this
          exact this
        rw [e]; exact hw
      rcases Bool.eq_false_or_eq_true (decide ((Nat.cast (R := Int) j) < (Nat.cast (R := Int) i)) : Bool) with h23 | h23
      · skip
        refine WK.segA ok 1000 0 [(20, RV.d (DV.bool true)), (27, RV.d (DV.int Go.IntKind.i64 (Nat.cast (R := Int) p))), (34, RV.d (DV.int Go.IntKind.i64 (Nat.cast (R := Int) k))), (38, RV.d (DV.int Go.IntKind.i64 (Nat.cast (R := Int) p))), (43, RV.d (DV.int Go.IntKind.i64 (Nat.cast (R := Int) q))), (49, RV.d (DV.int Go.IntKind.i64 (Nat.cast (R := Int) k))), (23, RV.d (DV.bool true))] [] [0, 2, 4, 10, 11] [true, l.all isC, true, true, decide ((Nat.cast (R := Int) p) + (Nat.cast (R := Int) j) ≤ (Nat.cast (R := Int) m)), decide ((Nat.cast (R := Int) m) + (Nat.cast (R := Int) j) ≤ (Nat.cast (R := Int) l.length)), decide (l.length ≤ 65536)] [(RV.d (DV.bool ((Nat.cast (R := Int) i) != (Nat.cast (R := Int) j))), RV.d (DV.bool true)), (RV.d (DV.bool (decide ((Nat.cast (R := Int) j) < (Nat.cast (R := Int) i)))), RV.d (DV.bool true)), (RV.d (DV.int Go.IntKind.i64 (Go.IntKind.i64.wrap ((Nat.cast (R := Int) m) - (Nat.cast (R := Int) i)))), RV.d (DV.int Go.IntKind.i64 (Nat.cast (R := Int) p))), (RV.d (DV.int Go.IntKind.i64 (Go.IntKind.i64.wrap ((Nat.cast (R := Int) i) - (Nat.cast (R := Int) j)))), RV.d (DV.int Go.IntKind.i64 (Nat.cast (R := Int) k)))] rfl (by kernel_rfl : runSegA (cfB ts1) 1000 0 _ _ _ _ (roS l (m : Int) (i : Int) (j : Int)) = some (stackAt roC' 0, roS (swapL l (Nat.cast (R := Int) p).toNat (Nat.cast (R := Int) m).toNat (Nat.cast (R := Int) j).toNat) (m : Int) (Nat.cast (R := Int) k) (Nat.cast (R := Int) j), _, _)) (by refine ⟨?_, ?_, ?_, ?_, ?_, ?_, ?_, trivial⟩ <;> (first | rfl | exact hall | exact decide_eq_true (by omega) | (refine decide_eq_true ?_; have := of_decide_eq_true h23; omega) | (refine decide_eq_true ?_; have := of_decide_eq_false h23; omega))) (by refine ⟨?_, le_bool h23, ?_, ?_, trivial⟩ <;> (first | exact le_bool (bne_iff_ne.2 (by omega)) | (refine .of_eq (congrArg (fun z : Int => RV.d (.int .i64 z)) ?_); rw [i64_in _ (by omega)]; omega) | (refine .of_eq (congrArg (fun z : Int => RV.d (.int .i64 z)) ?_); have h9 := of_decide_eq_true h23; have h8 := (hgt h23).1; rw [i64_in _ (by omega)]; omega) | (refine .of_eq (congrArg (fun z : Int => RV.d (.int .i64 z)) ?_); have h9 := of_decide_eq_false h23; have h8 := (hle h23).1; first | (rw [i64_in _ (by omega)]; omega) | (rw [i64_in (Nat.cast m + Nat.cast j) (by omega), i64_in _ (by omega)]; omega)))) ?_
        simp only [Int.toNat_natCast]
        first | exact (hgt h23).2 | exact (hle h23).2
      · skip
        refine WK.segA ok 1000 0 [(20, RV.d (DV.bool true)), (27, RV.d (DV.int Go.IntKind.i64 (Nat.cast (R := Int) p))), (34, RV.d (DV.int Go.IntKind.i64 (Nat.cast (R := Int) k))), (38, RV.d (DV.int Go.IntKind.i64 (Nat.cast (R := Int) p))), (43, RV.d (DV.int Go.IntKind.i64 (Nat.cast (R := Int) q))), (49, RV.d (DV.int Go.IntKind.i64 (Nat.cast (R := Int) k))), (23, RV.d (DV.bool false))] [] [0, 2, 4, 10, 11] [true, l.all isC, true, true, decide ((Nat.cast (R := Int) p) + (Nat.cast (R := Int) i) ≤ (Nat.cast (R := Int) q)), decide ((Nat.cast (R := Int) q) + (Nat.cast (R := Int) i) ≤ (Nat.cast (R := Int) l.length)), decide (l.length ≤ 65536)] [(RV.d (DV.bool ((Nat.cast (R := Int) i) != (Nat.cast (R := Int) j))), RV.d (DV.bool true)), (RV.d (DV.bool (decide ((Nat.cast (R := Int) j) < (Nat.cast (R := Int) i)))), RV.d (DV.bool false)), (RV.d (DV.int Go.IntKind.i64 (Go.IntKind.i64.wrap ((Nat.cast (R := Int) m) - (Nat.cast (R := Int) i)))), RV.d (DV.int Go.IntKind.i64 (Nat.cast (R := Int) p))), (RV.d (DV.int Go.IntKind.i64 (Go.IntKind.i64.wrap (Go.IntKind.i64.wrap ((Nat.cast (R := Int) m) + (Nat.cast (R := Int) j)) - (Nat.cast (R := Int) i)))), RV.d (DV.int Go.IntKind.i64 (Nat.cast (R := Int) q))), (RV.d (DV.int Go.IntKind.i64 (Go.IntKind.i64.wrap ((Nat.cast (R := Int) j) - (Nat.cast (R := Int) i)))), RV.d (DV.int Go.IntKind.i64 (Nat.cast (R := Int) k)))] rfl (by kernel_rfl : runSegA (cfB ts1) 1000 0 _ _ _ _ (roS l (m : Int) (i : Int) (j : Int)) = some (stackAt roC' 0, roS (swapL l (Nat.cast (R := Int) p).toNat (Nat.cast (R := Int) q).toNat (Nat.cast (R := Int) i).toNat) (m : Int) (Nat.cast (R := Int) i) (Nat.cast (R := Int) k), _, _)) (by refine ⟨?_, ?_, ?_, ?_, ?_, ?_, ?_, trivial⟩ <;> (first | rfl | exact hall | exact decide_eq_true (by omega) | (refine decide_eq_true ?_; have := of_decide_eq_true h23; omega) | (refine decide_eq_true ?_; have := of_decide_eq_false h23; omega))) (by refine ⟨?_, le_bool h23, ?_, ?_, ?_, trivial⟩ <;> (first | exact le_bool (bne_iff_ne.2 (by omega)) | (refine .of_eq (congrArg (fun z : Int => RV.d (.int .i64 z)) ?_); rw [i64_in _ (by omega)]; omega) | (refine .of_eq (congrArg (fun z : Int => RV.d (.int .i64 z)) ?_); have h9 := of_decide_eq_true h23; have h8 := (hgt h23).1; rw [i64_in _ (by omega)]; omega) | (refine .of_eq (congrArg (fun z : Int => RV.d (.int .i64 z)) ?_); have h9 := of_decide_eq_false h23; have h8 := (hle h23).1; first | (rw [i64_in _ (by omega)]; omega) | (rw [i64_in (Nat.cast m + Nat.cast j) (by omega), i64_in _ (by omega)]; omega)))) ?_
        simp only [Int.toNat_natCast]
        first | exact (hgt h23).2 | exact (hle h23).2
  rw [hm, hT]
  obtain ⟨a, ha⟩ : ∃ a, A.length = a := ⟨_, rfl⟩
  obtain ⟨b, hb⟩ : ∃ b, m + Y.length = b := ⟨_, rfl⟩
  have hTl2 : a + X.length + (Y.length + B.length) ≤ 65536 := by
    have := hok.1
    simp only [List.length_append] at this; omega
  obtain ⟨l, hl⟩ : ∃ l, (A ++ (X ++ (Y ++ B))).map chD = l := ⟨_, rfl⟩
  rw [hl] at hloop ⊢
  rw [ha, hb]
  have e1 : IntKind.i64.wrap ((Nat.cast (R := Int) m) - (Nat.cast (R := Int) a)) = (Nat.cast (R := Int) X.length) := by rw [i64_in _ (by omega)]; omega
  have e2 : IntKind.i64.wrap ((Nat.cast (R := Int) b) - (Nat.cast (R := Int) m)) = (Nat.cast (R := Int) Y.length) := by rw [i64_in _ (by omega)]; omega
  refine WK.segA ok 1000 0 [] [] [0, 2, 4, 10, 11] [] [] rfl (by kernel_rfl : runSegA (cfB ts1) 1000 0 _ _ _ _ (ini 58 [.own 0 4, .d (.int .i64 (a : Int)), .d (.int .i64 (m : Int)), .d (.int .i64 (b : Int)), cmpv] (arC l)) = some (stackAt roC' 0, roS l (m : Int) (IntKind.i64.wrap ((Nat.cast (R := Int) m) - (Nat.cast (R := Int) a))) (IntKind.i64.wrap ((Nat.cast (R := Int) b) - (Nat.cast (R := Int) m))), _, _)) trivial trivial ?_
  rw [e1, e2]
  exact hloop
def roE : Ent := fun a o => match a, o with
  | [.own 0 4, .d (.int .i64 p), .d (.int .i64 m), .d (.int .i64 q), .clo (.func f) [] []], [.arr T 4 els] =>
    some (.tup [], [.arr T 4 (rotL els p.toNat m.toNat q.toNat)], [Nat.beq T chT, Nat.beq f 39, els.all isC, decide (0 ≤ p), decide (p < m), decide (m < q), decide (q ≤ els.length), decide (els.length ≤ 65536)])
  | _, _ => none
theorem rotL_map {α β : Type} (f : α → β) (l : List α) (a b n : Nat) : rotL (l.map f) a b n = (rotL l a b n).map f := by
  simp only [rotL, part_map, List.map_append, List.map_take, List.map_drop]
theorem parts4 {α : Type} (l : List α) (a m b : Nat) (h : a ≤ m) (h2 : m ≤ b) : l = l.take a ++ (part l a m ++ (part l m b ++ l.drop b)) := by
  rw [← parts2 l m b h2, ← parts2 l a m h, List.take_append_drop]
theorem els_of {els : List DV} (h : els.all isC = true) (hl : els.length ≤ 65536) : ∃ L : List Chg, els = L.map chD ∧ okL L := by
  obtain ⟨L, hL, hLok⟩ := isL_spec (x := .lst 4 els false) (by simp only [isL, h, decide_eq_true hl]; rfl)
  exact ⟨L, by simpa [chL] using hL, hLok⟩
theorem ro_ent : EntOk Try.prog 104 roE := by
  intro a o r o' c hg hc
  unfold roE at hg
  split at hg
  · rename_i p m q f T els
    simp only [Option.some.injEq, Prod.mk.injEq] at hg
    obtain ⟨rfl, rfl, rfl⟩ := hg
    have hT := nbE (hc (Nat.beq T chT) (by simp))
    have hF := nbE (hc (Nat.beq f 39) (by simp))
    have h1 := hc (els.all isC) (by simp)
    have h2 := of_decide_eq_true (hc (decide (0 ≤ p)) (by simp))
    have h3 := of_decide_eq_true (hc (decide (p < m)) (by simp))
    have h4 := of_decide_eq_true (hc (decide (m < q)) (by simp))
    have h5 := of_decide_eq_true (hc (decide (q ≤ els.length)) (by simp))
    have h6 := of_decide_eq_true (hc (decide (els.length ≤ 65536)) (by simp))
    subst hT hF
    obtain ⟨L, rfl, hLok⟩ := els_of h1 h6
    rw [List.length_map] at h5 h6
    obtain ⟨p, rfl⟩ : ∃ k : Nat, p = k := ⟨p.toNat, by omega⟩
    obtain ⟨m, rfl⟩ : ∃ k : Nat, m = k := ⟨m.toNat, by omega⟩
    obtain ⟨q, rfl⟩ : ∃ k : Nat, q = k := ⟨q.toNat, by omega⟩
    have e := parts4 L p m q (by omega) (by omega)
    have l1 : (L.take p).length = p := by rw [List.length_take]; omega
    have l2 : (part L p m).length = m - p := part_len (by omega)
    have l3 : (part L m q).length = q - m := part_len (by omega)
    have := rot_c (L.take p) (part L p m) (part L m q) (L.drop q) (by omega) (by omega) (by rw [← e]; exact hLok)
    rw [← e, l1, l2, l3, show p + (m - p) = m by omega, show m + (q - m) = q by omega] at this
    simp only [Int.toNat_natCast]
    rw [rotL_map, show rotL L p m q = L.take p ++ (part L m q ++ (part L p m ++ L.drop q)) by simp only [rotL, List.append_assoc]]
    exact this
  · cases hg
end Go.Proofs.Ytljfolepmkcjlaa
