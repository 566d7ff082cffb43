/-
  What walks over changes answer: the tables' entries.
-/
import Derived.Test.YtljfolepmkcjlaaCB
namespace Go.Proofs.Ytljfolepmkcjlaa
open Go.RowKit Plain Am IntWalk
set_option maxRecDepth 100000

abbrev vv (k n : Int) (s : Bs) : DV := .agg [.int .u8 k, .int .i64 n, .str s]
def chL (l : List Chg) : DV := .lst 4 (l.map chD) false
def unR : DV → List Val
  | .lst _ els _ => toRow els
  | _ => []
def unL : DV → List Chg
  | .lst _ els _ => els.map toChg
  | _ => []
def isL : DV → Bool
  | .lst sz els full => decide (els.length ≤ 65536) && els.all isC && decide (sz = 4) && !full
  | _ => false
theorem unR_rD (l : List Val) : unR (rD l) = l := toRow_map l
theorem unL_map (l : List Chg) : (l.map chD).map toChg = l := by
  rw [List.map_map]
  conv => rhs; rw [← List.map_id l]
  exact List.map_congr_left fun c _ => toChg_chD c
theorem unL_chL (l : List Chg) : unL (chL l) = l := unL_map l
def okL (l : List Chg) : Prop := l.length ≤ 65536 ∧ ∀ c ∈ l, Chg.ok c
theorem isL_chL {l : List Chg} (h : okL l) : isL (chL l) = true := by
  simp only [isL, chL, List.length_map, Bool.and_eq_true, decide_eq_true_eq, List.all_eq_true, List.mem_map]
  refine ⟨⟨⟨h.1, ?_⟩, trivial⟩, rfl⟩
  rintro x ⟨c, hc, rfl⟩
  exact isC_chD (h.2 c hc)
theorem isL_spec {x : DV} (h : isL x = true) : ∃ l, x = chL l ∧ okL l := by
  unfold isL at h
  split at h
  · rename_i sz els full
    simp only [Bool.and_eq_true, decide_eq_true_eq, Bool.not_eq_true', List.all_eq_true] at h
    obtain ⟨⟨⟨h1, h2⟩, rfl⟩, rfl⟩ := h
    have : ∃ l : List Chg, els = l.map chD ∧ ∀ c ∈ l, Chg.ok c := by
      clear h1
      induction els with
      | nil => exact ⟨[], rfl, by simp⟩
      | cons x r ih =>
        obtain ⟨l, rfl, hl⟩ := ih (fun y hy => h2 y (by simp [hy]))
        obtain ⟨c, rfl, hc⟩ := isC_spec (h2 x (by simp))
        exact ⟨c :: l, rfl, fun d hd => by
          rcases List.mem_cons.1 hd with rfl | hd
          · exact hc
          · exact hl d hd⟩
    obtain ⟨l, rfl, hl⟩ := this
    exact ⟨l, rfl, by simpa using h1, hl⟩
  · cases h

/-- texts that are gone through byte by byte -/
def smV (v : Val) : Bool := decide (v.s.length ≤ 1000000)
def smR (l : List Val) : Bool := l.all smV
def smC (c : Chg) : Bool := decide (c.t.length ≤ 1000000) && smR c.k

def cvG : DV → DV → Option (DV × List Bool)
  | .agg [.int .u8 k, .int .i64 n, .str s], .agg [.int .u8 k2, .int .i64 n2, .str s2] => some (.int .i64 (cmpV ⟨k, n, s⟩ ⟨k2, n2, s2⟩), [])
  | _, _ => none
def rvG : DV → DV → Option (DV × List Bool)
  | .agg [.int .u8 k, .int .i64 n, .str s], .agg [.int .u8 k2, .int .i64 n2, .str s2] => some (.int .i64 (cmpV ⟨k, n, s⟩ ⟨k2, n2, s2⟩), [decide (0 ≤ k ∧ k ≤ 255), decide (0 ≤ k2 ∧ k2 ≤ 255), decide (s.length ≤ 1000000), decide (s2.length ≤ 1000000)])
  | _, _ => none
def nuG : DV → DV → Option (DV × List Bool)
  | .int .i64 a, .int .i64 b => some (.int .i64 (cmpI a b), [])
  | _, _ => none
def txG : DV → DV → Option (DV × List Bool)
  | .str s, .str t => some (.int .i64 (cmpS s t), [decide (s.length ≤ 1000000), decide (t.length ≤ 1000000)])
  | _, _ => none
def eqG (x y : DV) : Option (DV × List Bool) := some (.bool (decide (unR x = unR y)), [isR x, isR y])
def crG (x y : DV) : Option (DV × List Bool) := some (.int .i64 (cmpR (unR x) (unR y)), [isR x, isR y])
def rrG (x y : DV) : Option (DV × List Bool) := some (.int .i64 (cmpR (unR x) (unR y)), [isR x, isR y, smR (unR x), smR (unR y)])
def ccG (x y : DV) : Option (DV × List Bool) := some (.int .i64 (cmpC (toChg x) (toChg y)), [isC x, isC y])
def rcG (x y : DV) : Option (DV × List Bool) := some (.int .i64 (cmpC (toChg x) (toChg y)), [isC x, isC y, smC (toChg x), smC (toChg y)])
def myG (x : DV) : Option (DV × List Bool) := some (.bool (mayC (toChg x)), [isC x])
def roG (x : DV) : Option (DV × List Bool) := some (.bool (rowB (unR x)), [isR x])
def ckG (x : DV) : Option (DV × List Bool) := some (.int .i64 (if mayL (unL x) then 0 else 2), [isL x])
def maG (x : DV) : Option (DV × List Bool) := some (.bool (mayL (unL x)), [isL x])
/-- where the one that is met stands -/
def atI (x : Chg) : List Chg → Int
  | [] => -1
  | y :: r => if y.t = x.t ∧ y.k = x.k then 0 else if atI x r < 0 then -1 else atI x r + 1
def atG (x y : DV) : Option (DV × List Bool) := some (.int .i64 (atI (toChg x) (unL y)), [isC x, isL y])
def reG (x y : DV) : Option (DV × List Bool) := some (.int .i64 (refE (unL x) (unL y)), [isL x, isL y])
def smG (x y : DV) : Option (DV × List Bool) := some (.bool (decide (unL x = unL y)), [isL x, isL y])
/-- what the closures have added when going over ours has ended -/
def walkO (f : Chg × Option Chg → Option Chg) : List Chg → List Chg → List Chg
  | [], _ => []
  | x :: r, th => match th.dropWhile (fun y => decide (cmpC y x < 0)) with
    | [] => (f (x, none)).toList ++ walkO f r []
    | y :: q => if cmpC y x > 0 then (f (x, none)).toList ++ walkO f r (y :: q)
      else if x.o = y.o then (f (x, some y)).toList ++ walkO f r (y :: q) else []
def walkE : List Chg → List Chg → Int
  | [], _ => 0
  | x :: r, th => match th.dropWhile (fun y => decide (cmpC y x < 0)) with
    | [] => walkE r []
    | y :: q => if cmpC y x > 0 then walkE r (y :: q) else if x.o = y.o then walkE r (y :: q) else 220
theorem walk_OE (f : Chg × Option Chg → Option Chg) : ∀ (ours th : List Chg), (walkE ours th = 0 ∧ ∃ l, walkC ours th = some l ∧ walkO f ours th = l.filterMap f) ∨ (walkE ours th = 220 ∧ walkC ours th = none)
  | [], th => .inl ⟨rfl, [], rfl, rfl⟩
  | x :: r, th => by
    unfold walkE walkC walkO
    cases hd : th.dropWhile (fun y => decide (cmpC y x < 0)) with
    | nil =>
      simp only
      rcases walk_OE f r [] with ⟨h1, l, h2, h3⟩ | ⟨h1, h2⟩
      · refine .inl ⟨h1, (x, none) :: l, by rw [h2]; rfl, ?_⟩
        rw [h3, List.filterMap_cons]; cases f (x, none) <;> rfl
      · exact .inr ⟨h1, by rw [h2]; rfl⟩
    | cons y q =>
      simp only
      by_cases hg : cmpC y x > 0
      · simp only [hg, if_true]
        rcases walk_OE f r (y :: q) with ⟨h1, l, h2, h3⟩ | ⟨h1, h2⟩
        · refine .inl ⟨h1, (x, none) :: l, by rw [h2]; rfl, ?_⟩
          rw [h3, List.filterMap_cons]; cases f (x, none) <;> rfl
        · exact .inr ⟨h1, by rw [h2]; rfl⟩
      · simp only [hg, if_false]
        by_cases ho : x.o = y.o
        · simp only [ho, if_true]
          rcases walk_OE f r (y :: q) with ⟨h1, l, h2, h3⟩ | ⟨h1, h2⟩
          · refine .inl ⟨h1, (x, some y) :: l, by rw [h2]; rfl, ?_⟩
            rw [h3, List.filterMap_cons]; cases f (x, some y) <;> rfl
          · exact .inr ⟨h1, by rw [h2]; rfl⟩
        · simp [ho]
/-- the lists' error, the others' error -/
def meetE (ours th : List Chg) : Int := if mayL ours then (if mayL th then walkE ours th else 2) else 2
def meetO (f : Chg × Option Chg → Option Chg) (ours th : List Chg) : List Chg := if mayL ours && mayL th then walkO f ours th else []
theorem meetR_OE (f : Chg × Option Chg → Option Chg) (ours th : List Chg) : meetR f ours th = (if meetE ours th = 0 then meetO f ours th else [], meetE ours th) := by
  unfold meetR meetE meetO
  cases h1 : mayL ours <;> cases h2 : mayL th <;> simp
  rcases walk_OE f ours th with ⟨g1, l, g2, g3⟩ | ⟨g1, g2⟩
  · simp [g1, g2, g3]
  · simp [g1, g2]
def isS (o : Option Chg) : Bool := o.isSome
def isN (o : Option Chg) : Bool := o.isNone
def gF (o : Option Chg) : Chg := o.getD ⟨[], [], [], []⟩
/-- a closure's entry where something is added, and where nothing is -/
def cloU (yes : Bool) : Ent := fun a o => match a, o with
  | [.d x, y, .ptr 0 0, .ptr 1 0], [.box b [.d (.bool win)], .box l [.own 2 4], .arr T 4 els] => match y with
    | .d .nilp => some (.tup [], [.box b [.d (.bool win)], .box l [.own 3 4], .gone, .arr T 4 (els ++ [x])], [isC x, Nat.beq b 4, Nat.beq l 22, Nat.beq T 46, decide (els.length ≤ 1000000)])
    | .iptr yd 0 => match yes with
      | true => some (.tup [], [.box b [.d (.bool win)], .box l [.own 3 4], .gone, .arr T 4 (els ++ [chD (gF (upF win (toChg x, some (toChg yd))))])], [isC x, isC yd, Nat.beq b 4, Nat.beq l 22, Nat.beq T 46, decide (els.length ≤ 1000000), isS (upF win (toChg x, some (toChg yd)))])
      | false => some (.tup [], [.box b [.d (.bool win)], .box l [.own 2 4], .arr T 4 els], [isC x, isC yd, Nat.beq b 4, Nat.beq l 22, Nat.beq T 46, isN (upF win (toChg x, some (toChg yd)))])
    | _ => none
  | _, _ => none
def cloM (yes : Bool) : Ent := fun a o => match a, o with
  | [.d x, y, .ptr 0 0], [.box l [.own 1 4], .arr T 4 els] => match y with
    | .d .nilp => some (.tup [], [.box l [.own 1 4], .arr T 4 els], [isC x, Nat.beq l 22, Nat.beq T 46])
    | .iptr yd 0 => match yes with
      | true => some (.tup [], [.box l [.own 2 4], .gone, .arr T 4 (els ++ [chD (gF (meF (toChg x, some (toChg yd))))])], [isC x, isC yd, Nat.beq l 22, Nat.beq T 46, decide (els.length ≤ 1000000), isS (meF (toChg x, some (toChg yd)))])
      | false => some (.tup [], [.box l [.own 1 4], .arr T 4 els], [isC x, isC yd, Nat.beq l 22, Nat.beq T 46, isN (meF (toChg x, some (toChg yd)))])
    | _ => none
  | _, _ => none
/-- what going over both lists gives -/
def metU : Ent := fun a o => match a, o with
  | [.d x, .d y, .clo (.func f) [] [.ptr 0 0, .ptr 1 0]], [.box b [.d (.bool win)], .box l [.d (.lst 0 [] true)]] => bif Nat.beq f 32 then
      some (.d (.int .i64 (meetE (unL x) (unL y))), [.box b [.d (.bool win)], .box l [.own 2 4], .arr 46 4 ((meetO (upF win) (unL x) (unL y)).map chD)], [isL x, isL y]) else none
  | [.d x, .d y, .clo (.func f) [] [.ptr 0 0]], [.box l [.d (.lst 0 [] true)]] => bif Nat.beq f 37 then
      some (.d (.int .i64 (meetE (unL x) (unL y))), [.box l [.own 1 4], .arr 46 4 ((meetO meF (unL x) (unL y)).map chD)], [isL x, isL y]) else none
  | _, _ => none
end Go.Proofs.Ytljfolepmkcjlaa
