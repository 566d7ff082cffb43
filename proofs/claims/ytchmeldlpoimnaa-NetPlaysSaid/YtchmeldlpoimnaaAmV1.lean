/-
  Letters on their way, in plain terms.
-/
import Derived.Test.YtchmeldlpoimnaaAmV0
namespace Go.Proofs.Ytchmeldlpoimnaa
open Go.RowKit Am IntWalk
set_option maxRecDepth 100000
set_option linter.unusedSimpArgs false

structure Ltr where
  id : Int
  frm : Int
  dst : Int
  bs : List UInt8
  sp : Bool
  deriving DecidableEq, Inhabited
def lD (l : Ltr) : DV := .agg [.int .i64 l.id, .int .i64 l.frm, .int .i64 l.dst, .str l.bs, .bool l.sp]
def zL : Ltr := ⟨0, 0, 0, [], false⟩
def toL : DV → Ltr
  | .agg [.int _ i, .int _ f, .int _ t, .str b, .bool s] => ⟨i, f, t, b, s⟩
  | _ => zL
def isL : DV → Bool
  | .agg [.int .i64 _, .int .i64 _, .int .i64 _, .str _, .bool _] => true
  | _ => false
theorem isL_spec {x : DV} (h : isL x = true) : x = lD (toL x) := by
  unfold isL at h
  split at h
  · rfl
  · cases h
@[simp] theorem toL_lD (l : Ltr) : toL (lD l) = l := rfl
def rows (L : List Ltr) : List (DV × DV) := L.map fun l => (.int .i64 l.id, lD l)
def rowL (p : DV × DV) : Ltr := toL p.2
def isRow (p : DV × DV) : Bool := match p.1 with
  | .int .i64 k => isL p.2 && (k == (toL p.2).id)
  | _ => false
def unrows (es : List (DV × DV)) : List Ltr := es.map rowL
def upI : List Ltr → Int → Bool
  | [], _ => true
  | l :: r, b => decide (b < l.id) && upI r l.id
def isRows (es : List (DV × DV)) (last : Int) : Bool := es.all isRow && decide (es.length ≤ 64) && upI (unrows es) 0 && (unrows es).all (fun l => decide (l.id ≤ last)) && decide (0 ≤ last ∧ last ≤ 1000000)
theorem isRow_spec {p : DV × DV} (h : isRow p = true) : p = (.int .i64 (rowL p).id, lD (rowL p)) := by
  obtain ⟨a, b⟩ := p
  unfold isRow at h
  split at h
  · rename_i k hk
    simp only [Bool.and_eq_true, beq_iff_eq] at h
    simp only at hk
    rw [hk]
    simp only [rowL]
    rw [← h.2, ← isL_spec h.1]
  · cases h
theorem rows_un {es : List (DV × DV)} (h : es.all isRow = true) : es = rows (unrows es) := by
  induction es with
  | nil => rfl
  | cons p r ih =>
    simp only [List.all_cons, Bool.and_eq_true] at h
    have e : rows (unrows (p :: r)) = (.int .i64 (rowL p).id, lD (rowL p)) :: rows (unrows r) := rfl
    rw [e, ← ih h.2, ← isRow_spec h.1]
theorem un_rows (L : List Ltr) : unrows (rows L) = L := by
  induction L with
  | nil => rfl
  | cons l r ih =>
    have e : unrows (rows (l :: r)) = l :: unrows (rows r) := rfl
    rw [e, ih]
theorem isRow_rows (L : List Ltr) : (rows L).all isRow = true := by
  induction L with
  | nil => rfl
  | cons l r ih => show (isRow _ && (rows r).all isRow) = true; rw [ih]; simp [isRow, isL, lD, toL]

structure NetOk (L : List Ltr) (last : Int) : Prop where
  len : L.length ≤ 64
  up : upI L 0 = true
  le : ∀ l ∈ L, l.id ≤ last
  lo : 0 ≤ last
  hi : last ≤ 1000000
theorem isRows_iff (L : List Ltr) (last : Int) : isRows (rows L) last = true ↔ NetOk L last := by
  unfold isRows
  rw [isRow_rows, un_rows]
  simp only [Bool.true_and, Bool.and_eq_true, decide_eq_true_eq, List.all_eq_true]
  rw [show (rows L).length = L.length from List.length_map ..]
  exact ⟨fun ⟨⟨⟨a, b⟩, c⟩, d, e⟩ => ⟨a, b, c, d, e⟩, fun ⟨a, b, c, d, e⟩ => ⟨⟨⟨a, b⟩, c⟩, d, e⟩⟩
theorem isRows_un {es : List (DV × DV)} {last : Int} (h : isRows es last = true) : es = rows (unrows es) ∧ NetOk (unrows es) last := by
  have h1 : es.all isRow = true := by unfold isRows at h; simp only [Bool.and_eq_true] at h; exact h.1.1.1.1
  have e := rows_un h1
  refine ⟨e, ?_⟩
  rw [e] at h
  exact (isRows_iff _ _).1 h

/-- What is found. -/
def fnd (id : Int) : List Ltr → Option Ltr
  | [] => none
  | l :: r => if id == l.id then some l else fnd id r
def pos (id : Int) : List Ltr → Option Nat
  | [] => none
  | l :: r => if id == l.id then some 0 else (pos id r).map (· + 1)
def del (id : Int) : List Ltr → List Ltr
  | [] => []
  | l :: r => if id == l.id then r else l :: del id r
def rep (x : Ltr) : List Ltr → List Ltr
  | [] => []
  | l :: r => if x.id == l.id then x :: r else l :: rep x r
theorem mget_rows (id : Int) (z : DV) (L : List Ltr) : mget (.int .i64 id) z (rows L) = match fnd id L with | some l => lD l | none => z := by
  induction L with
  | nil => rfl
  | cons l r ih =>
    have e : mget (.int .i64 id) z (rows (l :: r)) = bif id == l.id then lD l else mget (.int .i64 id) z (rows r) := rfl
    rw [e, ih]
    cases hh : id == l.id <;> simp [fnd, hh]
theorem mhas_rows (id : Int) (L : List Ltr) : mhas (.int .i64 id) (rows L) = (fnd id L).isSome := by
  induction L with
  | nil => rfl
  | cons l r ih =>
    have e : mhas (.int .i64 id) (rows (l :: r)) = (id == l.id || mhas (.int .i64 id) (rows r)) := rfl
    rw [e, ih]
    cases hh : id == l.id <;> simp [fnd, hh]
theorem mdel_rows (id : Int) (L : List Ltr) : mdel (.int .i64 id) (rows L) = rows (del id L) := by
  induction L with
  | nil => rfl
  | cons l r ih =>
    have e : mdel (.int .i64 id) (rows (l :: r)) = bif id == l.id then rows r else ((.int .i64 l.id, lD l) :: mdel (.int .i64 id) (rows r)) := rfl
    rw [e, ih]
    cases hh : id == l.id <;> simp [del, hh, rows]
theorem mput_rep (x : Ltr) (L : List Ltr) (h : (fnd x.id L).isSome = true) : mput (.int .i64 x.id) (lD x) (rows L) = rows (rep x L) := by
  induction L with
  | nil => simp [fnd] at h
  | cons l r ih =>
    have e : mput (.int .i64 x.id) (lD x) (rows (l :: r)) = bif x.id == l.id then (.int .i64 x.id, lD x) :: rows r else ((.int .i64 l.id, lD l) :: mput (.int .i64 x.id) (lD x) (rows r)) := rfl
    rw [e]
    cases hh : x.id == l.id with
    | true => simp [rep, hh, rows]
    | false =>
      rw [ih (by simpa [fnd, hh] using h)]
      simp [rep, hh, rows]
theorem upI_lt : ∀ {L : List Ltr} {b : Int}, upI L b = true → ∀ l ∈ L, b < l.id
  | [], _, _ => by simp
  | x :: r, b, h => by
    simp only [upI, Bool.and_eq_true, decide_eq_true_eq] at h
    intro l hl
    rcases List.mem_cons.1 hl with rfl | hl
    · exact h.1
    · have := upI_lt h.2 l hl; omega
theorem fnd_none {id : Int} : ∀ {L : List Ltr}, (∀ l ∈ L, l.id ≠ id) → fnd id L = none
  | [], _ => rfl
  | x :: r, h => by
    unfold fnd
    rw [if_neg (by have := h x (by simp); simp; omega), fnd_none (fun l hl => h l (by simp [hl]))]
theorem fnd_some {id : Int} : ∀ {L : List Ltr} {l : Ltr}, fnd id L = some l → l ∈ L ∧ l.id = id
  | x :: r, l, h => by
    unfold fnd at h
    split at h
    · rename_i e; simp at e h; subst h; exact ⟨by simp, e.symm⟩
    · have := fnd_some h; exact ⟨by simp [this.1], this.2⟩
theorem mput_new (x : Ltr) (L : List Ltr) (h : fnd x.id L = none) : mput (.int .i64 x.id) (lD x) (rows L) = rows (L ++ [x]) := by
  induction L with
  | nil => rfl
  | cons l r ih =>
    have e : mput (.int .i64 x.id) (lD x) (rows (l :: r)) = bif x.id == l.id then (.int .i64 x.id, lD x) :: rows r else ((.int .i64 l.id, lD l) :: mput (.int .i64 x.id) (lD x) (rows r)) := rfl
    rw [e]
    cases hh : x.id == l.id with
    | true => simp [fnd, hh] at h
    | false =>
      rw [ih (by simpa [fnd, hh] using h)]
      simp [rows]
theorem upI_app : ∀ {L : List Ltr} {b : Int} {x : Ltr}, upI L b = true → b < x.id → (∀ l ∈ L, l.id < x.id) → upI (L ++ [x]) b = true
  | [], b, x, _, hb, _ => by simp [upI, hb]
  | l :: r, b, x, h, hb, hl => by
    simp only [upI, Bool.and_eq_true, decide_eq_true_eq, List.cons_append] at h ⊢
    exact ⟨h.1, upI_app h.2 (hl l (by simp)) (fun y hy => hl y (by simp [hy]))⟩
theorem upI_mono : ∀ {L : List Ltr} {a b : Int}, a ≤ b → upI L b = true → upI L a = true
  | [], _, _, _, _ => rfl
  | x :: r, a, b, h, hb => by
    simp only [upI, Bool.and_eq_true, decide_eq_true_eq] at hb ⊢
    exact ⟨by omega, hb.2⟩
theorem upI_del {id : Int} : ∀ {L : List Ltr} {b : Int}, upI L b = true → upI (del id L) b = true
  | [], _, _ => rfl
  | x :: r, b, h => by
    simp only [upI, Bool.and_eq_true, decide_eq_true_eq] at h
    unfold del
    split
    · exact upI_mono (by omega) h.2
    · simp only [upI, Bool.and_eq_true, decide_eq_true_eq]
      exact ⟨h.1, upI_del h.2⟩
theorem upI_rep {y : Ltr} : ∀ {L : List Ltr} {b : Int}, upI L b = true → upI (rep y L) b = true
  | [], _, _ => rfl
  | x :: r, b, h => by
    simp only [upI, Bool.and_eq_true, decide_eq_true_eq] at h
    unfold rep
    split
    · rename_i e; simp at e; simp only [upI, Bool.and_eq_true, decide_eq_true_eq]; rw [e]; exact h
    · simp only [upI, Bool.and_eq_true, decide_eq_true_eq]
      exact ⟨h.1, upI_rep h.2⟩
theorem del_sub {id : Int} : ∀ {L : List Ltr} {l : Ltr}, l ∈ del id L → l ∈ L
  | x :: r, l, h => by
    unfold del at h
    split at h
    · simp [h]
    · rcases List.mem_cons.1 h with rfl | h
      · simp
      · simp [del_sub h]
theorem rep_sub {y : Ltr} : ∀ {L : List Ltr} {l : Ltr}, l ∈ rep y L → l ∈ L ∨ (l = y ∧ ∃ x ∈ L, x.id = y.id)
  | x :: r, l, h => by
    unfold rep at h
    split at h
    · rename_i e
      simp at e
      rcases List.mem_cons.1 h with rfl | h
      · exact .inr ⟨rfl, x, by simp, e.symm⟩
      · exact .inl (by simp [h])
    · rcases List.mem_cons.1 h with rfl | h
      · exact .inl (by simp)
      · rcases rep_sub h with h | ⟨h, z, hz, e⟩
        · exact .inl (by simp [h])
        · exact .inr ⟨h, z, by simp [hz], e⟩
theorem del_len {id : Int} : ∀ {L : List Ltr}, (fnd id L).isSome = true → (del id L).length + 1 = L.length
  | [], h => by simp [fnd] at h
  | x :: r, h => by
    unfold fnd at h; unfold del
    split at h
    · rename_i e; simp [e]
    · rename_i e; simp [e, del_len h]
theorem del_none {id : Int} : ∀ {L : List Ltr}, fnd id L = none → del id L = L
  | [], _ => rfl
  | x :: r, h => by
    unfold fnd at h; unfold del
    split at h
    · cases h
    · rename_i e; simp [e, del_none h]
theorem rep_len {y : Ltr} : ∀ {L : List Ltr}, (rep y L).length = L.length
  | [] => rfl
  | x :: r => by unfold rep; split <;> simp [rep_len]
theorem fnd_pos {id : Int} : ∀ {L : List Ltr}, (pos id L = none ∧ fnd id L = none) ∨ ∃ i l, pos id L = some i ∧ fnd id L = some l ∧ L[i]? = some l ∧ del id L = L.take i ++ L.drop (i + 1) ∧ i < L.length ∧ ∀ y : Ltr, y.id = id → rep y L = L.set i y
  | [] => .inl ⟨rfl, rfl⟩
  | x :: r => by
    unfold pos fnd del
    cases hh : id == x.id with
    | true => exact .inr ⟨0, x, by simp, by simp, rfl, by simp, by simp, fun y hy => by simp [rep, hy, hh]⟩
    | false =>
      rcases fnd_pos (id := id) (L := r) with ⟨h1, h2⟩ | ⟨i, l, h1, h2, h3, h4, h5, h6⟩
      · exact .inl ⟨by simp [h1], by simpa using h2⟩
      · exact .inr ⟨i + 1, l, by simp [h1], by simpa using h2, by simpa using h3, by simp [h4], by simpa using h5, fun y hy => by simp [rep, hy, hh, h6 y hy]⟩

theorem NetOk.add {L : List Ltr} {last : Int} (h : NetOk L last) (hl : L.length < 64) (hi : last < 1000000) {x : Ltr} (hx : x.id = last + 1) : NetOk (L ++ [x]) (last + 1) where
  len := by simp; omega
  up := upI_app h.up (by have := h.lo; omega) (fun l m => by have := h.le l m; omega)
  le := fun l m => by rcases List.mem_append.1 m with m | m; (have := h.le l m; omega); (simp at m; subst m; omega)
  lo := by have := h.lo; omega
  hi := by omega
theorem NetOk.del {L : List Ltr} {last : Int} (h : NetOk L last) (id : Int) : NetOk (del id L) last where
  len := by
    cases e : fnd id L with
    | none => rw [del_none e]; exact h.len
    | some l => have := del_len (id := id) (L := L) (by simp [e]); have := h.len; omega
  up := upI_del h.up
  le := fun l m => h.le l (del_sub m)
  lo := h.lo
  hi := h.hi
theorem NetOk.rep {L : List Ltr} {last : Int} (h : NetOk L last) (y : Ltr) : NetOk (rep y L) last where
  len := by rw [rep_len]; exact h.len
  up := upI_rep h.up
  le := fun l m => by
    rcases rep_sub m with m | ⟨rfl, x, hx, e⟩
    · exact h.le l m
    · rw [← e]; exact h.le x hx
  lo := h.lo
  hi := h.hi
theorem NetOk.new {L : List Ltr} {last : Int} (h : NetOk L last) : fnd (last + 1) L = none := fnd_none fun l m => by have := h.le l m; omega
theorem NetOk.zero : NetOk [] 0 := ⟨by simp, rfl, by simp, by omega, by omega⟩

/-- The calls. -/
def addN (x : Ltr) (L : List Ltr) (last : Int) : Int × Int × List Ltr × Int :=
  if L.length = 64 then (0, 8, L, last) else (last + 1, 0, L ++ [⟨last + 1, x.frm, x.dst, x.bs, x.sp⟩], last + 1)
def isN (n : Int) : Bool := decide (0 ≤ n) && decide (n < 4)
def sendN (a b : Int) (s : List UInt8) (L : List Ltr) (last : Int) : Int × Int × List Ltr × Int :=
  if !(isN a && isN b) then (0, 2, L, last) else if 262144 < s.length then (0, 3, L, last) else addN ⟨0, a, b, s, false⟩ L last
def findN (id : Int) (L : List Ltr) : Ltr × Int := match fnd id L with
  | some l => (l, 0)
  | none => (zL, 4)
def twiceN (id : Int) (L : List Ltr) (last : Int) : Int × Int × List Ltr × Int := match fnd id L with
  | some l => addN l L last
  | none => (0, 4, L, last)
def xorB (s : List UInt8) (i : Nat) (y : Int) : UInt8 := DV.byte (.int .u8 (bits .xor .u8 ((s.getD i 0).toNat : Int) y))
def spoilE (l : Ltr) (a y : Int) : Int := if l.sp then 9 else if a < 0 ∨ (l.bs.length : Int) ≤ a then 5 else if y = 0 then 2 else 0
def spoilL (l : Ltr) (a y : Int) : Ltr := { l with bs := l.bs.set a.toNat (xorB l.bs a.toNat y), sp := true }
def spoilN (id a y : Int) (L : List Ltr) : Int × List Ltr := match fnd id L with
  | some l => if spoilE l a y = 0 then (0, rep (spoilL l a y) L) else (spoilE l a y, L)
  | none => (4, L)
end Go.Proofs.Ytchmeldlpoimnaa
