/-
  NetPlays: the outcomes' tables, the states.
-/
import Derived.Test.YtchmeldlpoimnaaAmVa
import Derived.Test.YtchmeldlpoimnaaAmW1
namespace Go.Proofs.Ytchmeldlpoimnaa
open Go.RowKit Am IntWalk
set_option maxRecDepth 100000
set_option linter.unusedVariables false

abbrev rB (last : Int) : PObj := .box 72 [.own 1 5, .d (.int .i64 last)]
def fndS (id : Int) (L : List Ltr) : Bool := (fnd id L).isSome
def fndZ (id : Int) (L : List Ltr) : Bool := (fnd id L).isNone
def base (els : List DV) (last : Int) : List Bool := [els.all isL, decide (els.length ≤ 64), decide (0 ≤ last ∧ last < 1000000)]
theorem base_of {els : List DV} {last : Int} {c : List Bool} (hc : ∀ b ∈ base els last ++ c, b = true) : els = (els.map toL).map lD ∧ (els.map toL).length ≤ 64 ∧ (0 ≤ last ∧ last < 1000000) := by
  have h1 : els.all isL = true := hc (els.all isL) (by simp [base])
  have h2 : els.length ≤ 64 := of_decide_eq_true (hc _ (by simp [base]))
  have h3 : 0 ≤ last ∧ last < 1000000 := of_decide_eq_true (hc _ (by simp [base]))
  exact ⟨map_toL h1, by rw [List.length_map]; exact h2, h3⟩
def sendEY : Ent := fun p o => match p, o with
  | [.ptr 0 0, .d (.int .i64 a), .d (.int .i64 b), .d (.str s)], [.box 72 [.own 1 5, .d (.int .i64 last)], .frz 5 els] =>
    some (.tup [.d (.int .i64 (last + 1)), .d (.int .i64 0)], refY (els.map toL) (els.map toL ++ [⟨last + 1, a, b, s, false⟩]) (last + 1), base els last ++ [isN a, isN b, decide (s.length ≤ 262144), decide ((els.map toL).length < 64)])
  | _, _ => none
theorem sendEY_ok : EntOk Try.prog 44 sendEY := by
  intro p o r o' c hg hc
  unfold sendEY at hg
  split at hg
  · rename_i a b s last els
    simp only [Option.some.injEq, Prod.mk.injEq] at hg
    obtain ⟨rfl, rfl, rfl⟩ := hg
    obtain ⟨e, h2, h3⟩ := base_of hc
    have := sendRY a b s (els.map toL) last ⟨hc (isN a) (by simp [base]), hc (isN b) (by simp [base])⟩ (of_decide_eq_true (hc _ (by simp [base]))) (of_decide_eq_true (hc (decide ((els.map toL).length < 64)) (by simp [base]))) h3
    unfold refO at this
    rw [← e] at this
    exact this
  · cases hg
def sendEN : Ent := fun p o => match p, o with
  | [.ptr 0 0, .d (.int .i64 a), .d (.int .i64 b), .d (.str s)], [.box 72 [.own 1 5, .d (.int .i64 last)], .frz 5 els] =>
    some (.tup [.d (.int .i64 0), .d (.int .i64 (sendN a b s (els.map toL) last).2.1)], [rB last, .frz 5 els], base els last ++ [(sendN a b s (els.map toL) last).2.1 != 0])
  | _, _ => none
theorem sendEN_ok : EntOk Try.prog 44 sendEN := by
  intro p o r o' c hg hc
  unfold sendEN at hg
  split at hg
  · rename_i a b s last els
    simp only [Option.some.injEq, Prod.mk.injEq] at hg
    obtain ⟨rfl, rfl, rfl⟩ := hg
    obtain ⟨e, h2, h3⟩ := base_of hc
    have := sendRN a b s (els.map toL) last (by have := hc ((sendN a b s (els.map toL) last).2.1 != 0) (by simp [base]); simpa using this) h2 h3
    unfold refO at this
    rw [← e] at this
    exact this
  · cases hg
def delEY : Ent := fun p o => match p, o with
  | [.ptr 0 0, .d (.int .i64 id)], [.box 72 [.own 1 5, .d (.int .i64 last)], .frz 5 els] =>
    some (.tup [.d (lD (findN id (els.map toL)).1), .d (.int .i64 0)], refY (els.map toL) (del id (els.map toL)) last, base els last ++ [fndS id (els.map toL)])
  | _, _ => none
theorem delEY_ok : EntOk Try.prog 45 delEY := by
  intro p o r o' c hg hc
  unfold delEY at hg
  split at hg
  · rename_i id last els
    simp only [Option.some.injEq, Prod.mk.injEq] at hg
    obtain ⟨rfl, rfl, rfl⟩ := hg
    obtain ⟨e, h2, h3⟩ := base_of hc
    obtain ⟨x, hx⟩ := Option.isSome_iff_exists.1 (hc (fndS id (els.map toL)) (by simp [base]))
    have := deliverRY id (els.map toL) last x hx h2
    rw [show (findN id (els.map toL)).1 = x by unfold findN; rw [hx]]
    unfold refO at this
    rw [← e] at this
    exact this
  · cases hg
def delEN : Ent := fun p o => match p, o with
  | [.ptr 0 0, .d (.int .i64 id)], [.box 72 [.own 1 5, .d (.int .i64 last)], .frz 5 els] =>
    some (.tup [.d (lD zL), .d (.int .i64 4)], [rB last, .frz 5 els], base els last ++ [fndZ id (els.map toL)])
  | _, _ => none
theorem delEN_ok : EntOk Try.prog 45 delEN := by
  intro p o r o' c hg hc
  unfold delEN at hg
  split at hg
  · rename_i id last els
    simp only [Option.some.injEq, Prod.mk.injEq] at hg
    obtain ⟨rfl, rfl, rfl⟩ := hg
    obtain ⟨e, h2, h3⟩ := base_of hc
    have hx : fnd id (els.map toL) = none := Option.isNone_iff_eq_none.1 (hc (fndZ id (els.map toL)) (by simp [base]))
    have := deliverRN id (els.map toL) last hx h2
    unfold refO at this
    rw [← e] at this
    exact this
  · cases hg
def twiEY : Ent := fun p o => match p, o with
  | [.ptr 0 0, .d (.int .i64 id)], [.box 72 [.own 1 5, .d (.int .i64 last)], .frz 5 els] =>
    some (.tup [.d (.int .i64 (last + 1)), .d (.int .i64 0)], refY (els.map toL) (els.map toL ++ [⟨last + 1, (findN id (els.map toL)).1.frm, (findN id (els.map toL)).1.dst, (findN id (els.map toL)).1.bs, (findN id (els.map toL)).1.sp⟩]) (last + 1), base els last ++ [fndS id (els.map toL), decide ((els.map toL).length < 64)])
  | _, _ => none
theorem twiEY_ok : EntOk Try.prog 46 twiEY := by
  intro p o r o' c hg hc
  unfold twiEY at hg
  split at hg
  · rename_i id last els
    simp only [Option.some.injEq, Prod.mk.injEq] at hg
    obtain ⟨rfl, rfl, rfl⟩ := hg
    obtain ⟨e, h2, h3⟩ := base_of hc
    obtain ⟨x, hx⟩ := Option.isSome_iff_exists.1 (hc (fndS id (els.map toL)) (by simp [base]))
    have := twiceRY id (els.map toL) last x hx (of_decide_eq_true (hc (decide ((els.map toL).length < 64)) (by simp [base]))) h3
    rw [show (findN id (els.map toL)).1 = x by unfold findN; rw [hx]]
    unfold refO at this
    rw [← e] at this
    exact this
  · cases hg
def twiEN : Ent := fun p o => match p, o with
  | [.ptr 0 0, .d (.int .i64 id)], [.box 72 [.own 1 5, .d (.int .i64 last)], .frz 5 els] =>
    some (.tup [.d (.int .i64 0), .d (.int .i64 (twiceN id (els.map toL) last).2.1)], [rB last, .frz 5 els], base els last ++ [(twiceN id (els.map toL) last).2.1 != 0])
  | _, _ => none
theorem twiEN_ok : EntOk Try.prog 46 twiEN := by
  intro p o r o' c hg hc
  unfold twiEN at hg
  split at hg
  · rename_i id last els
    simp only [Option.some.injEq, Prod.mk.injEq] at hg
    obtain ⟨rfl, rfl, rfl⟩ := hg
    obtain ⟨e, h2, h3⟩ := base_of hc
    have := twiceRN id (els.map toL) last (by have := hc ((twiceN id (els.map toL) last).2.1 != 0) (by simp [base]); simpa using this) h2 h3
    unfold refO at this
    rw [← e] at this
    exact this
  · cases hg
def spoEY : Ent := fun p o => match p, o with
  | [.ptr 0 0, .d (.int .i64 id), .d (.int .i64 a), .d (.int .u8 y)], [.box 72 [.own 1 5, .d (.int .i64 last)], .frz 5 els] =>
    some (.d (.int .i64 0), refY (els.map toL) (rep (spoilL (findN id (els.map toL)).1 a y) (els.map toL)) last, base els last ++ [fndS id (els.map toL), spoilE (findN id (els.map toL)).1 a y == 0, decide ((findN id (els.map toL)).1.bs.length ≤ 1000000)])
  | _, _ => none
theorem spoEY_ok : EntOk Try.prog 47 spoEY := by
  intro p o r o' c hg hc
  unfold spoEY at hg
  split at hg
  · rename_i id a y last els
    simp only [Option.some.injEq, Prod.mk.injEq] at hg
    obtain ⟨rfl, rfl, rfl⟩ := hg
    obtain ⟨e, h2, h3⟩ := base_of hc
    obtain ⟨x, hx⟩ := Option.isSome_iff_exists.1 (hc (fndS id (els.map toL)) (by simp [base]))
    have q1 := hc (spoilE (findN id (els.map toL)).1 a y == 0) (by simp [base])
    have q2 : (findN id (els.map toL)).1.bs.length ≤ 1000000 := of_decide_eq_true (hc _ (by simp [base]))
    rw [show (findN id (els.map toL)).1 = x by unfold findN; rw [hx]] at q1 q2 ⊢
    have := spoilRY id a y (els.map toL) last x hx (eq_of_beq q1) h2 q2
    unfold refO at this
    rw [← e] at this
    exact this
  · cases hg
def spoEN : Ent := fun p o => match p, o with
  | [.ptr 0 0, .d (.int .i64 id), .d (.int .i64 a), .d (.int .u8 y)], [.box 72 [.own 1 5, .d (.int .i64 last)], .frz 5 els] =>
    some (.d (.int .i64 (spoilN id a y (els.map toL)).1), [rB last, .frz 5 els], base els last ++ [(spoilN id a y (els.map toL)).1 != 0])
  | _, _ => none
theorem spoEN_ok : EntOk Try.prog 47 spoEN := by
  intro p o r o' c hg hc
  unfold spoEN at hg
  split at hg
  · rename_i id a y last els
    simp only [Option.some.injEq, Prod.mk.injEq] at hg
    obtain ⟨rfl, rfl, rfl⟩ := hg
    obtain ⟨e, h2, h3⟩ := base_of hc
    have := spoilRN id a y (els.map toL) last (by have := hc ((spoilN id a y (els.map toL)).1 != 0) (by simp [base]); simpa using this) h2
    unfold refO at this
    rw [← e] at this
    exact this
  · cases hg
noncomputable def tY : List (Nat × Ent) := (44, sendEY) :: (45, delEY) :: (46, twiEY) :: (47, spoEY) :: tr0
noncomputable def tN : List (Nat × Ent) := (44, sendEN) :: (45, delEN) :: (46, twiEN) :: (47, spoEN) :: tr0
theorem tY_ok : EntsOk Try.prog tY := .cons sendEY_ok (.cons delEY_ok (.cons twiEY_ok (.cons spoEY_ok tr0k)))
theorem tN_ok : EntsOk Try.prog tN := .cons sendEN_ok (.cons delEN_ok (.cons twiEN_ok (.cons spoEN_ok tr0k)))

noncomputable abbrev plC : Code := bodyOf Try.f12
def plR (l : List Opx) (i : Int) : List (Nat × RV) := [(3, .ptr 200 0), (4, .ptr 201 0), (26, .d (.lst 5 (l.map oD) false)), (27, .d (.int .i64 ((l.map oD).length : Int))), (28, .d (.int .i64 i))]
def plG (l : List Opx) (nr : List (DV × DV)) (last : Int) (ra : List DV) (rl : Int) (i : Int) : ESt := { n := 152, m := 0, regs := T.mk (plR l i), objs := T.mk [(200, .box 115 [.map 202, .d (.int .i64 last)]), (201, .box 72 [.own 203 5, .d (.int .i64 rl)]), (202, .map nr), (203, .frz 5 ra)] }
def plA (l : List Opx) (nr : List (DV × DV)) (last : Int) (ra : List DV) (rl : Int) (i : Int) : ESt := { n := 152, m := 0, regs := T.mk (plR l i), objs := T.mk [(200, .box 115 [.map 202, .d (.int .i64 last)]), (201, .box 72 [.own 203 5, .d (.int .i64 rl)]), (202, .map nr), (203, .arr 61 5 ra)] }
def plZ (l : List Opx) (nr : List (DV × DV)) : ESt := { n := 152, m := 0, regs := T.mk (plR l 0), objs := T.mk [(200, .box 115 [.map 202, .d (.int .i64 0)]), (201, .box 72 [.d (.lst 0 [] true), .d (.int .i64 0)]), (202, .map nr)] }
end Go.Proofs.Ytchmeldlpoimnaa
