/-
  Plain facts about changes: their order, which changesets may be, one set upon the other. No program in sight.
-/
import Derived.Test.YtljfolepmkcjlaaRec
import Derived.Lib.Bytealg
namespace Go.Proofs.Ytljfolepmkcjlaa.Plain

structure Chg where
  t : Bs
  k : List Val
  o : List Val
  n : List Val
  deriving DecidableEq

def cmpI (a b : Int) : Int := if a < b then -1 else if a > b then 1 else 0
def cmpS (s t : Bs) : Int := Go.Lib.compareBytes s t
def cmpV (a b : Val) : Int := if a.k < b.k then -1 else if a.k > b.k then 1 else if a.k = 1 then cmpI a.n b.n else if a.k = 2 ∨ a.k = 3 then cmpS a.s b.s else 0
def cmpR : List Val → List Val → Int
  | [], [] => 0
  | [], _ :: _ => -1
  | _ :: _, [] => 1
  | a :: r, b :: q => if cmpV a b = 0 then cmpR r q else cmpV a b
def cmpC (a b : Chg) : Int := if cmpS a.t b.t = 0 then cmpR a.k b.k else cmpS a.t b.t

/-- may a row be put? -/
def rowB (l : List Val) : Bool := decide ((putRow l).2 = 0)
def mayC (c : Chg) : Bool := decide (1 ≤ c.t.length) && decide (c.t.length ≤ 32) && decide (1 ≤ c.k.length) && !decide (c.o = c.n) && rowB c.k && rowB c.o && rowB c.n
/-- each may be, and each stands behind the one before it -/
def mayI : Option Chg → List Chg → Bool
  | _, [] => true
  | p, x :: r => mayC x && (match p with | none => true | some y => decide (cmpC y x < 0)) && mayI (some x) r
def mayL (l : List Chg) : Bool := decide (l.length ≤ 1000) && mayI none l

/-! ### The order -/
theorem cmpI_anti (a b : Int) : cmpI b a = - cmpI a b := by unfold cmpI; split <;> split <;> (try split) <;> omega
theorem cmpI_eq {a b : Int} (h : cmpI a b = 0) : a = b := by unfold cmpI at h; split at h <;> (try split at h) <;> omega
theorem cmpI_lt {a b : Int} : cmpI a b < 0 ↔ a < b := by unfold cmpI; split <;> (try split) <;> omega

theorem cmpS_self : ∀ (s : Bs), cmpS s s = 0
  | [] => rfl
  | a :: r => by
    show Go.Lib.compareBytes (a :: r) (a :: r) = 0
    rw [Go.Lib.compareBytes, if_neg (UInt8.lt_irrefl a), if_neg (UInt8.lt_irrefl a)]
    exact cmpS_self r
theorem cmpS_anti : ∀ (s t : Bs), cmpS t s = - cmpS s t
  | [], [] => rfl
  | [], _ :: _ => rfl
  | _ :: _, [] => rfl
  | a :: r, b :: q => by
    have ih := cmpS_anti r q
    simp only [cmpS, Go.Lib.compareBytes] at *
    have := @UInt8.lt_asymm a b
    by_cases h1 : a < b
    · simp [h1, this h1]
    · by_cases h2 : b < a
      · simp [h1, h2]
      · simp [h1, h2, ih]
theorem cmpS_eq : ∀ {s t : Bs}, cmpS s t = 0 → s = t
  | [], [], _ => rfl
  | [], _ :: _, h => by simp [cmpS, Go.Lib.compareBytes] at h
  | _ :: _, [], h => by simp [cmpS, Go.Lib.compareBytes] at h
  | a :: r, b :: q, h => by
    simp only [cmpS, Go.Lib.compareBytes] at h
    by_cases h1 : a < b
    · simp [h1] at h
    · by_cases h2 : b < a
      · simp [h1, h2] at h
      · simp only [h1, h2, if_false] at h
        have : a = b := by
          have e1 : ¬ a.toNat < b.toNat := fun hh => h1 (UInt8.lt_iff_toNat_lt.2 hh)
          have e2 : ¬ b.toNat < a.toNat := fun hh => h2 (UInt8.lt_iff_toNat_lt.2 hh)
          exact UInt8.toNat_inj.1 (by omega)
        rw [this, cmpS_eq (s := r) (t := q) h]
theorem cmpS_trans : ∀ {a b c : Bs}, cmpS a b < 0 → cmpS b c < 0 → cmpS a c < 0
  | [], [], _, h, _ => by simp [cmpS, Go.Lib.compareBytes] at h
  | [], _ :: _, [], _, h => by simp [cmpS, Go.Lib.compareBytes] at h
  | [], _ :: _, _ :: _, _, _ => by simp [cmpS, Go.Lib.compareBytes]
  | _ :: _, [], _, h, _ => by simp [cmpS, Go.Lib.compareBytes] at h
  | _ :: _, _ :: _, [], _, h => by simp [cmpS, Go.Lib.compareBytes] at h
  | a :: r, b :: q, c :: p, h1, h2 => by
    have ih := @cmpS_trans r q p
    simp only [cmpS, Go.Lib.compareBytes, UInt8.lt_iff_toNat_lt] at *
    by_cases x1 : a.toNat < b.toNat
    · by_cases x2 : b.toNat < c.toNat
      · rw [if_pos (by omega)]; omega
      · rw [if_neg x2] at h2
        by_cases x3 : c.toNat < b.toNat
        · rw [if_pos x3] at h2; omega
        · rw [if_pos (by omega)]; omega
    · rw [if_neg x1] at h1
      by_cases x4 : b.toNat < a.toNat
      · rw [if_pos x4] at h1; omega
      · rw [if_neg x4] at h1
        by_cases x2 : b.toNat < c.toNat
        · rw [if_pos (by omega)]; omega
        · rw [if_neg x2] at h2
          by_cases x3 : c.toNat < b.toNat
          · rw [if_pos x3] at h2; omega
          · rw [if_neg x3] at h2
            rw [if_neg (by omega), if_neg (by omega)]
            exact ih h1 h2

theorem cmpV_self (v : Val) : cmpV v v = 0 := by
  unfold cmpV
  rw [if_neg (by omega), if_neg (by omega)]
  split
  · unfold cmpI; split <;> (try split) <;> omega
  · split
    · exact cmpS_self _
    · rfl
theorem cmpV_anti (a b : Val) : cmpV b a = - cmpV a b := by
  unfold cmpV
  by_cases h1 : a.k < b.k
  · rw [if_neg (by omega), if_pos (by omega), if_pos h1]; omega
  · by_cases h2 : a.k > b.k
    · rw [if_pos (by omega), if_neg h1, if_pos h2]
    · have he : b.k = a.k := by omega
      rw [if_neg h2, if_neg h1, if_neg h1, if_neg h2, he]
      split
      · exact cmpI_anti _ _
      · split
        · exact cmpS_anti _ _
        · rfl
theorem cmpV_eq {a b : Val} (ha : chk a = 0) (hb : chk b = 0) (wa : a.wf) (wb : b.wf) (h : cmpV a b = 0) : a = b := by
  obtain ⟨a1, a2, a3, _⟩ := chk_zero ha
  obtain ⟨b1, b2, b3, _⟩ := chk_zero hb
  obtain ⟨x1, _⟩ := wa
  unfold cmpV at h
  by_cases h1 : a.k < b.k
  · rw [if_pos h1] at h; omega
  · rw [if_neg h1] at h
    by_cases h2 : a.k > b.k
    · rw [if_pos h2] at h; omega
    · rw [if_neg h2] at h
      obtain ⟨ak, an, as⟩ := a
      obtain ⟨bk, bn, bs⟩ := b
      simp only at *
      have hk : ak = bk := by omega
      subst hk
      by_cases h3 : ak = 1
      · rw [if_pos h3] at h
        have := cmpI_eq h
        have e1 : as = [] := by rcases a3 with h | h; omega; exact h
        have e2 : bs = [] := by rcases b3 with h | h; omega; exact h
        subst this e1 e2; rfl
      · have e1 : an = 0 := by rcases a2 with h | h; omega; exact h
        have e2 : bn = 0 := by rcases b2 with h | h; omega; exact h
        rw [if_neg h3] at h
        by_cases h4 : ak = 2 ∨ ak = 3
        · rw [if_pos h4] at h
          have := cmpS_eq h
          subst this e1 e2; rfl
        · have e3 : as = [] := by rcases a3 with h | h; omega; exact h
          have e4 : bs = [] := by rcases b3 with h | h; omega; exact h
          subst e1 e2 e3 e4; rfl
theorem cmpV_trans {a b c : Val} (h1 : cmpV a b < 0) (h2 : cmpV b c < 0) : cmpV a c < 0 := by
  unfold cmpV at *
  by_cases x1 : a.k < b.k
  · by_cases x2 : b.k > c.k
    · rw [if_neg (by omega), if_pos x2] at h2; omega
    · rw [if_pos (by omega)]; omega
  · rw [if_neg x1] at h1
    by_cases x2 : a.k > b.k
    · rw [if_pos x2] at h1; omega
    · rw [if_neg x2] at h1
      by_cases y1 : b.k < c.k
      · rw [if_pos (by omega)]; omega
      · rw [if_neg y1] at h2
        by_cases y2 : b.k > c.k
        · rw [if_pos y2] at h2; omega
        · rw [if_neg y2] at h2
          rw [if_neg (by omega), if_neg (by omega)]
          have e : b.k = a.k := by omega
          rw [e] at h2
          by_cases z1 : a.k = 1
          · rw [if_pos z1] at h1 h2 ⊢
            rw [cmpI_lt] at *; omega
          · rw [if_neg z1] at h1 h2 ⊢
            by_cases z2 : a.k = 2 ∨ a.k = 3
            · rw [if_pos z2] at h1 h2 ⊢
              exact cmpS_trans h1 h2
            · rw [if_neg z2] at h1; omega

/-- the values of a row that may be -/
def rowOk (l : List Val) : Prop := ∀ v ∈ l, chk v = 0 ∧ v.wf

theorem cmpR_self : ∀ (l : List Val), cmpR l l = 0
  | [] => rfl
  | v :: r => by simp only [cmpR, cmpV_self, if_true]; exact cmpR_self r
theorem cmpR_anti : ∀ (a b : List Val), cmpR b a = - cmpR a b
  | [], [] => rfl
  | [], _ :: _ => rfl
  | _ :: _, [] => rfl
  | a :: r, b :: q => by
    have ih := cmpR_anti r q
    simp only [cmpR, cmpV_anti a b]
    by_cases h : cmpV a b = 0
    · rw [if_pos h, if_pos (by omega), ih]
    · rw [if_neg h, if_neg (by omega)]
theorem cmpR_eq : ∀ {a b : List Val}, rowOk a → rowOk b → cmpR a b = 0 → a = b
  | [], [], _, _, _ => rfl
  | [], _ :: _, _, _, h => by simp [cmpR] at h
  | _ :: _, [], _, _, h => by simp [cmpR] at h
  | a :: r, b :: q, ha, hb, h => by
    simp only [cmpR] at h
    by_cases x : cmpV a b = 0
    · rw [if_pos x] at h
      have e := cmpV_eq (ha a (by simp)).1 (hb b (by simp)).1 (ha a (by simp)).2 (hb b (by simp)).2 x
      have e2 := cmpR_eq (a := r) (b := q) (fun v hv => ha v (by simp [hv])) (fun v hv => hb v (by simp [hv])) h
      rw [e, e2]
    · rw [if_neg x] at h; exact absurd h x
theorem cmpR_trans : ∀ {a b c : List Val}, rowOk a → rowOk b → rowOk c → cmpR a b < 0 → cmpR b c < 0 → cmpR a c < 0
  | [], [], _, _, _, _, h, _ => by simp [cmpR] at h
  | [], _ :: _, [], _, _, _, _, h => by simp [cmpR] at h
  | [], _ :: _, _ :: _, _, _, _, _, _ => by simp [cmpR]
  | _ :: _, [], _, _, _, _, h, _ => by simp [cmpR] at h
  | _ :: _, _ :: _, [], _, _, _, _, h => by simp [cmpR] at h
  | a :: r, b :: q, c :: p, ha, hb, hc, h1, h2 => by
    have ih := @cmpR_trans r q p (fun v hv => ha v (by simp [hv])) (fun v hv => hb v (by simp [hv])) (fun v hv => hc v (by simp [hv]))
    have va := ha a (by simp)
    have vb := hb b (by simp)
    have vc := hc c (by simp)
    simp only [cmpR] at *
    by_cases x : cmpV a b = 0
    · have e := cmpV_eq va.1 vb.1 va.2 vb.2 x
      subst e
      rw [if_pos x] at h1
      by_cases y : cmpV a c = 0
      · rw [if_pos y] at h2 ⊢; exact ih h1 h2
      · rw [if_neg y] at h2 ⊢; exact h2
    · rw [if_neg x] at h1
      by_cases y : cmpV b c = 0
      · have e := cmpV_eq vb.1 vc.1 vb.2 vc.2 y
        subst e
        rw [if_neg x]; exact h1
      · rw [if_neg y] at h2
        have := cmpV_trans h1 h2
        rw [if_neg (by omega)]; exact this

def Chg.wf (c : Chg) : Prop := (∀ v ∈ c.k, v.wf) ∧ (∀ v ∈ c.o, v.wf) ∧ (∀ v ∈ c.n, v.wf)

theorem cmpC_self (c : Chg) : cmpC c c = 0 := by unfold cmpC; rw [if_pos (cmpS_self _)]; exact cmpR_self _
theorem cmpC_anti (a b : Chg) : cmpC b a = - cmpC a b := by
  unfold cmpC
  rw [cmpS_anti a.t b.t]
  by_cases h : cmpS a.t b.t = 0
  · rw [if_pos h, if_pos (by omega)]; exact cmpR_anti _ _
  · rw [if_neg h, if_neg (by omega)]
theorem cmpC_eq {a b : Chg} (ha : rowOk a.k) (hb : rowOk b.k) (h : cmpC a b = 0) : a.t = b.t ∧ a.k = b.k := by
  unfold cmpC at h
  by_cases x : cmpS a.t b.t = 0
  · rw [if_pos x] at h; exact ⟨cmpS_eq x, cmpR_eq ha hb h⟩
  · rw [if_neg x] at h; exact absurd h x
theorem cmpC_of {a b : Chg} (ht : a.t = b.t) (hk : a.k = b.k) : cmpC a b = 0 := by
  unfold cmpC; rw [ht, hk, if_pos (cmpS_self _)]; exact cmpR_self _
theorem cmpC_trans {a b c : Chg} (ha : rowOk a.k) (hb : rowOk b.k) (hc : rowOk c.k) (h1 : cmpC a b < 0) (h2 : cmpC b c < 0) : cmpC a c < 0 := by
  unfold cmpC at *
  by_cases x : cmpS a.t b.t = 0
  · have e := cmpS_eq x
    rw [if_pos x] at h1
    rw [e]
    by_cases y : cmpS b.t c.t = 0
    · rw [if_pos y] at h2 ⊢; exact cmpR_trans ha hb hc h1 h2
    · rw [if_neg y] at h2 ⊢; exact h2
  · rw [if_neg x] at h1
    by_cases y : cmpS b.t c.t = 0
    · have e := cmpS_eq y
      rw [← e, if_neg x]; exact h1
    · rw [if_neg y] at h2
      have := cmpS_trans h1 h2
      rw [if_neg (by omega)]; exact this

theorem mayC_key {c : Chg} (h : mayC c = true) (w : c.wf) : rowOk c.k := by
  simp only [mayC, Bool.and_eq_true, rowB, decide_eq_true_eq] at h
  have := putRow_ok h.1.1.2
  have h2 := (chkRow_zero this.1).2
  exact fun v hv => ⟨h2 v hv, w.1 v hv⟩

/-- the first stands ahead of all that follow -/
def sorted : List Chg → Prop
  | [] => True
  | x :: r => (∀ y ∈ r, cmpC x y < 0) ∧ sorted r

theorem mayI_spec : ∀ {l : List Chg} {p : Option Chg}, mayI p l = true → (∀ c ∈ l, c.wf) → (∀ q, p = some q → rowOk q.k) → (∀ c ∈ l, mayC c = true ∧ rowOk c.k) ∧ sorted l ∧ ∀ q, p = some q → ∀ c ∈ l, cmpC q c < 0
  | [], p, _, _, _ => ⟨by simp, trivial, by simp⟩
  | x :: r, p, h, w, hq => by
    simp only [mayI, Bool.and_eq_true] at h
    obtain ⟨⟨h1, h2⟩, h3⟩ := h
    have hx := mayC_key h1 (w x (by simp))
    obtain ⟨i1, i2, i3⟩ := mayI_spec h3 (fun c hc => w c (by simp [hc])) (fun q e => by injection e with e; subst e; exact hx)
    refine ⟨?_, ⟨i3 x rfl, i2⟩, ?_⟩
    · intro c hc
      rcases List.mem_cons.1 hc with rfl | hc
      · exact ⟨h1, hx⟩
      · exact i1 c hc
    · rintro q rfl c hc
      simp only [decide_eq_true_eq] at h2
      rcases List.mem_cons.1 hc with rfl | hc
      · exact h2
      · exact cmpC_trans (hq q rfl) hx (i1 c hc).2 h2 (i3 x rfl c hc)

/-! ### One upon the other -/
/-- goes over ours with what is left of theirs -/
def walkC : List Chg → List Chg → Option (List (Chg × Option Chg))
  | [], _ => some []
  | x :: r, th => match th.dropWhile (fun y => decide (cmpC y x < 0)) with
    | [] => (walkC r []).map fun q => (x, none) :: q
    | y :: q => if cmpC y x > 0 then (walkC r (y :: q)).map fun p => (x, none) :: p
      else if x.o = y.o then (walkC r (y :: q)).map fun p => (x, some y) :: p else none
def atC (x : Chg) (l : List Chg) : Option Chg := l.find? fun y => decide (y.t = x.t ∧ y.k = x.k)
def fits (th : List Chg) (x : Chg) : Bool := match atC x th with
  | none => true
  | some y => decide (x.o = y.o)
def upF (win : Bool) : Chg × Option Chg → Option Chg
  | (x, none) => some x
  | (x, some y) => if win = true ∧ x.n ≠ y.n then some ⟨x.t, x.k, y.n, x.n⟩ else none
def meF : Chg × Option Chg → Option Chg
  | (_, none) => none
  | (x, some y) => if x.n ≠ y.n then some x else none

theorem atC_drop {x : Chg} : ∀ {l : List Chg}, atC x l = atC x (l.dropWhile fun y => decide (cmpC y x < 0))
  | [] => rfl
  | y :: r => by
    have ih := @atC_drop x r
    rw [List.dropWhile_cons]
    by_cases h : cmpC y x < 0
    · simp only [h, decide_true, if_true]
      rw [← ih]
      have : ¬ (y.t = x.t ∧ y.k = x.k) := fun ⟨a, b⟩ => by rw [cmpC_of a b] at h; omega
      simp [atC, this]
    · simp [h]
theorem dropWhile_drop {p q : Chg → Bool} (hpq : ∀ y, p y = true → q y = true) : ∀ (l : List Chg), (l.dropWhile p).dropWhile q = l.dropWhile q
  | [] => rfl
  | y :: r => by
    rw [List.dropWhile_cons, List.dropWhile_cons]
    by_cases h : p y = true
    · rw [if_pos h, if_pos (hpq y h)]; exact dropWhile_drop hpq r
    · rw [if_neg h, List.dropWhile_cons]

theorem sorted_drop (p : Chg → Bool) : ∀ {l : List Chg}, sorted l → sorted (l.dropWhile p)
  | [], h => h
  | y :: r, h => by
    rw [List.dropWhile_cons]
    split
    · exact sorted_drop p h.2
    · exact h

theorem mem_drop {p : Chg → Bool} {l : List Chg} {c : Chg} (h : c ∈ l.dropWhile p) : c ∈ l := (List.dropWhile_sublist p).subset h

theorem walkC_eq : ∀ (ours th : List Chg), (∀ c ∈ ours, rowOk c.k) → (∀ c ∈ th, rowOk c.k) → sorted ours → sorted th →
    walkC ours th = if ours.all (fits th) then some (ours.map fun x => (x, atC x th)) else none
  | [], th, _, _, _, _ => rfl
  | x :: r, th, ho, ht, so, st => by
    have hx := ho x (by simp)
    have hat : ∀ z ∈ r, ∀ l : List Chg, (∀ c ∈ l, rowOk c.k) → atC z l = atC z (l.dropWhile fun y => decide (cmpC y x < 0)) := by
      intro z hz l hl
      induction l with
      | nil => rfl
      | cons y q ih =>
        rw [List.dropWhile_cons]
        by_cases h : cmpC y x < 0
        · simp only [h, decide_true, if_true]
          rw [← ih (fun c hc => hl c (by simp [hc]))]
          have h2 := cmpC_trans (hl y (by simp)) hx (ho z (by simp [hz])) h (so.1 z hz)
          have : ¬ (y.t = z.t ∧ y.k = z.k) := fun ⟨a, b⟩ => by rw [cmpC_of a b] at h2; omega
          simp [atC, this]
        · simp [h]
    have hr : ∀ z ∈ r, atC z th = atC z (th.dropWhile fun y => decide (cmpC y x < 0)) := fun z hz => hat z hz th ht
    have hxa := @atC_drop x th
    have st2 := sorted_drop (fun y => decide (cmpC y x < 0)) st
    have ht2 : ∀ c ∈ th.dropWhile (fun y => decide (cmpC y x < 0)), rowOk c.k := fun c hc => ht c (mem_drop hc)
    have hhd : ∀ y q, th.dropWhile (fun y => decide (cmpC y x < 0)) = y :: q → ¬ cmpC y x < 0 := by
      intro y q e
      have := List.head?_dropWhile_not (fun y => decide (cmpC y x < 0)) th
      rw [e] at this
      simpa using this
    have ih := walkC_eq r (th.dropWhile fun y => decide (cmpC y x < 0)) (fun c hc => ho c (by simp [hc])) ht2 so.2 st2
    have hall : r.all (fits th) = r.all (fits (th.dropWhile fun y => decide (cmpC y x < 0))) := by
      apply Bool.eq_iff_iff.2
      simp only [List.all_eq_true, fits]
      constructor
      · intro h z hz; rw [← hr z hz]; exact h z hz
      · intro h z hz; rw [hr z hz]; exact h z hz
    have hmap : (r.map fun x => (x, atC x th)) = r.map fun z => (z, atC z (th.dropWhile fun y => decide (cmpC y x < 0))) := by
      apply List.map_congr_left
      intro z hz; rw [hr z hz]
    rw [List.all_cons, List.map_cons, hall, hmap, walkC]
    generalize th.dropWhile (fun y => decide (cmpC y x < 0)) = l at *
    have hf : fits th x = match atC x l with | none => true | some y => decide (x.o = y.o) := by rw [fits, hxa]
    rw [hf, hxa]
    cases l with
    | nil =>
      simp only [ih]
      simp only [atC, List.find?_nil, Bool.true_and]
      split <;> rfl
    | cons y q =>
      have hn := hhd y q rfl
      simp only [ih]
      by_cases h : cmpC y x > 0
      · have ha : atC x (y :: q) = none := by
          unfold atC
          rw [List.find?_eq_none]
          intro z hz
          simp only [decide_eq_true_eq]
          rintro ⟨a, b⟩
          have e0 := cmpC_of a b
          rcases List.mem_cons.1 hz with rfl | hz
          · omega
          · have h3 := st2.1 z hz
            have h4 : cmpC x y < 0 := by rw [cmpC_anti y x]; omega
            have h5 := cmpC_trans hx (ht2 y (by simp)) (ht2 z (by simp [hz])) h4 h3
            rw [cmpC_anti z x] at h5; omega
        rw [if_pos h, ha]
        simp only [Bool.true_and]
        split <;> rfl
      · have e0 : cmpC y x = 0 := by omega
        obtain ⟨e1, e2⟩ := cmpC_eq (ht2 y (by simp)) hx e0
        have ha : atC x (y :: q) = some y := by simp [atC, e1, e2]
        rw [if_neg h, ha]
        simp only
        by_cases h5 : x.o = y.o
        · simp only [h5, if_true, decide_true, Bool.true_and]
          split <;> rfl
        · simp [h5]

/-- what is answered: the changes, and the error -/
def meetR (f : Chg × Option Chg → Option Chg) (ours th : List Chg) : List Chg × Int :=
  if mayL ours && mayL th then
    match walkC ours th with
    | some l => (l.filterMap f, 0)
    | none => ([], 220)
  else ([], 2)
def refE (ours th : List Chg) : Int := if mayL ours && mayL th then (if ours.all (fits th) then 0 else 220) else 2
def meetQ (f : Chg × Option Chg → Option Chg) (ours th : List Chg) : List Chg × Int :=
  if refE ours th = 0 then (ours.filterMap fun x => f (x, atC x th), 0) else ([], refE ours th)
theorem meet_eq (f : Chg × Option Chg → Option Chg) (ours th : List Chg) (wo : ∀ c ∈ ours, c.wf) (wt : ∀ c ∈ th, c.wf) : meetR f ours th = meetQ f ours th := by
  unfold meetR meetQ refE
  by_cases h : (mayL ours && mayL th) = true
  · simp only [h, if_true]
    simp only [mayL, Bool.and_eq_true] at h
    obtain ⟨⟨_, h1⟩, ⟨_, h2⟩⟩ := h
    obtain ⟨a1, a2, _⟩ := mayI_spec h1 wo (by simp)
    obtain ⟨b1, b2, _⟩ := mayI_spec h2 wt (by simp)
    rw [walkC_eq ours th (fun c hc => (a1 c hc).2) (fun c hc => (b1 c hc).2) a2 b2]
    by_cases h3 : ours.all (fits th) = true
    · simp [h3, List.filterMap_map, Function.comp_def]
    · simp [h3]
  · simp [h]
end Go.Proofs.Ytljfolepmkcjlaa.Plain
