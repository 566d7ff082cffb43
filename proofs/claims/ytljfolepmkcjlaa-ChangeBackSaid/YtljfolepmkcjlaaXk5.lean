/-
  Texts that the claim leans on, one behind the other, part 5.
-/
import Derived.Test.YtljfolepmkcjlaaXk4
import Derived.Below
import Derived.Laws.AppendOwn
import Derived.WideKeyArgs
import Derived.ChangeShapes
import Derived.ChangeArms
import Derived.RowKit
import Derived.ProofKit
import Derived.OpenShut
import Derived.JoinedCond
import GoSem.ClaimJoined

/-
  The abstract machine, third part: the driver, contracts, tables of contracts, a law out of its contract.
-/
/-
  The abstract machine: regions that draw their order, whose operations change no object.
-/
namespace Go.Am
variable {P : Program}

theorem rvOf_congr {R R' : Nat → RV} {x : Operand} (h : ∀ t, x = .tmp t → R t = R' t) : rvOf R x = rvOf R' x := by
  cases x with
  | tmp t => exact h t rfl
  | _ => rfl

theorem map_congr' {R R' : Nat → RV} {l : List Operand} (h : ∀ x ∈ l, rvOf R x = rvOf R' x) : l.map (rvOf R) = l.map (rvOf R') := List.map_congr_left h

theorem exOp_congr {cf : Cfg} {R R' : Nat → RV} {O : Tab} {sl : Nat} {o : Oper} (h : ∀ x ∈ o.op.operands, rvOf R x = rvOf R' x) : exOp cf R O sl o = exOp cf R' O sl o := by
  unfold exOp
  cases ho : o.op <;> rw [ho] at h <;> simp only [Op.operands] at h
  case move x => simp [h x (by simp)]
  case assign x => simp [h x (by simp)]
  case pick c x y => simp only [h c (by simp), h x (by simp), h y (by simp)]
  case box t x => simp only [h x (by simp)]
  case build t parts =>
    have : (parts.toList.map fun p => (p.1, rvOf R p.2)) = (parts.toList.map fun p => (p.1, rvOf R' p.2)) := List.map_congr_left fun p hp => by
      rw [h p.2 (by simp; exact ⟨p.1, by simpa using hp⟩)]
    simp only [this]
  case buildSlice t n parts =>
    have : (parts.toList.map fun p => (p.1, rvOf R p.2)) = (parts.toList.map fun p => (p.1, rvOf R' p.2)) := List.map_congr_left fun p hp => by
      rw [h p.2 (by simp; exact ⟨p.1, by simpa using hp⟩)]
    simp only [this]
  case load t x => simp only [h x (by simp)]
  case store t x y => simp only [h x (by simp), h y (by simp)]
  case nilCheck x => simp only [h x (by simp)]
  case binOp op t x y yt => simp only [h x (by simp), h y (by simp)]
  case unOp op t x => simp only [h x (by simp)]
  case convert s d x => simp only [h x (by simp)]
  case slice t x lo hi mx =>
    have h1 : lo.map (rvOf R) = lo.map (rvOf R') := by cases lo with | none => rfl | some y => simp [h y (by simp)]
    have h2 : hi.map (rvOf R) = hi.map (rvOf R') := by cases hi with | none => rfl | some y => simp [h y (by simp)]
    have h3 : mx.map (rvOf R) = mx.map (rvOf R') := by cases mx with | none => rfl | some y => simp [h y (by simp)]
    simp only [h x (by simp), h1, h2, h3]
  case fieldAddr t x f => simp only [h x (by simp)]
  case field t x f => simp only [h x (by simp)]
  case indexAddr t x i => simp only [h x (by simp), h i (by simp)]
  case index t x i => simp only [h x (by simp), h i (by simp)]
  case extract x i => simp only [h x (by simp)]
  case makeFunc fn first caps =>
    have h1 : first.toList.map (rvOf R) = first.toList.map (rvOf R') := map_congr' fun x hx => h x (by simp; left; simpa using hx)
    have h2 : caps.toList.map (rvOf R) = caps.toList.map (rvOf R') := map_congr' fun x hx => h x (by simp; right; simpa using hx)
    simp only [h1, h2]
  case makeSlice t l c => simp only [h l (by simp), h c (by simp)]
  case makeMap t r =>
    have : r.map (rvOf R) = r.map (rvOf R') := by cases r with | none => rfl | some y => simp [h y (by simp)]
    simp only [this]
  case lookup t x i ok => simp only [h x (by simp), h i (by simp)]
  case mapUpdate t m k v => simp only [h m (by simp), h k (by simp), h v (by simp)]
  case call c =>
    have h1 : c.args.toList.map (rvOf R) = c.args.toList.map (rvOf R') := map_congr' fun x hx => h x (by simp [Call.operands]; right; simpa using hx)
    simp only [h1]
    cases hcal : c.callee with
    | value f => simp only [h f (by simp [Call.operands, hcal])]
    | _ => rfl
  all_goals rfl

/-- An operation that changes no object: the value that it gives, what it asks, what is said of it. -/
def qVal (cf : Cfg) (ops : Array Oper) (ov : Ov) (R : Nat → RV) (O : Tab) (o : Oper) : Option (RV × List Bool × List (RV × RV)) :=
  match guardOf R ops o with
  | none => none
  | some false => some (.und, [], [])
  | some true => match exOp cf R O 0 o with
    | none => none
    | some (res, _) => bif res.upd.isEmpty then
        match o.dst with
        | none => some (.bot, res.conds, [])
        | some d => match findOv d ov with
          | none => some (res.val, res.conds, [])
          | some v => some (v, res.conds, [(res.val, v)])
      else none

def setD (R : Nat → RV) (dst : Option Nat) (v : RV) : Nat → RV :=
  match dst with
  | none => R
  | some d => setR R d v

theorem FRel.setD {κ : Kap} {φ : Phi} {w : World} {s : SSt} {a : Act} (F : FRel κ φ w s a) {dst : Option Nat} {rv : RV} {v : Value} (hd : ∀ d, dst = some d → d < s.n)
    (hr : RVR κ φ s.O w.heap rv v) : FRel κ φ w { s with R := Am.setD s.R dst rv } (a.put dst v) := by
  cases dst with
  | none => exact F.putNone v
  | some d => exact F.put (hd d rfl) hr

theorem qVal_wp {κ : Kap} {φ : Phi} {w : World} {s : SSt} {a : Act} {cf : Cfg} (hcf : CfOk P cf) {ops : Array Oper} {ov : Ov} {o : Oper} {v : RV} {cs : List Bool} {es : List (RV × RV)} (F : FRel κ φ w s a)
    (h : qVal cf ops ov s.R s.O o = some (v, cs, es)) (hc : ∀ c ∈ cs, c = true) (he : ∀ e ∈ es, RVle e.1 e.2) {i : Nat} (hi : ops[i]? = some o)
    (hn : ∀ (j : Nat) (gg : Oper) (t : Nat), ops[j]? = some gg → gg.dst = some t → t < s.n) {Q : Exit → Act → World → Prop} {K : Act → World → Prop}
    (hk : ∀ a' w' κ' φ', FRel κ' φ' w' { s with R := setD s.R o.dst v } a' → Fr κ w κ' w' → Kp φ s.O φ' s.O → K a' w') : wpOp P ops Q i K a w := by
  unfold qVal at h
  unfold wpOp
  rw [hi]; simp only
  have hdst : ∀ d, o.dst = some d → d < s.n := fun d hd => hn i o d hi hd
  split at h
  · simp at h
  · rename_i hg
    rw [guard_wanted F hg (fun j want gg t _ hj ht => hn j gg t hj ht)]
    simp only [Bool.false_eq_true, if_false]
    injection h with h; injection h with h1 h2; subst h1
    exact hk _ _ κ φ (F.setD hdst .und) (Fr.refl _ _) (Kp.refl _ _)
  · rename_i hg
    rw [guard_wanted F hg (fun j want gg t _ hj ht => hn j gg t hj ht)]
    simp only [if_true]
    left
    split at h
    · simp at h
    · rename_i res un hex
      cases hu : res.upd.isEmpty with
      | false => rw [hu] at h; simp at h
      | true =>
        rw [hu] at h; simp only [cond_true] at h
        have hu' : res.upd = [] := by simpa using hu
        have fin : ∀ rv, v = rv → RVle res.val rv ∨ o.dst = none → (∀ c ∈ res.conds, c = true) → o.wp P a w K Q := by
          rintro rv rfl hle hcc
          refine op_wp hcf F (sl := 0) hex hcc (fun u w' κ' φ' g1 g2 g3 g4 => ?_)
          rw [hu'] at g1 g2 g4
          refine hk _ _ κ' φ' ?_ g3 g4
          rcases hle with hle | hle
          · exact FRel.setD (s := s) g1 hdst (hle _ _ _ _ _ g2)
          · rw [hle]; exact g1
        split at h
        · rename_i hd
          injection h with h; injection h with h1 h2; injection h2 with h2 h3; subst h2
          exact fin v rfl (.inr hd) hc
        · split at h
          · injection h with h; injection h with h1 h2; injection h2 with h2 h3; subst h2
            exact fin v rfl (.inl (h1 ▸ fun _ _ _ _ _ r => r)) hc
          · rename_i vv hv
            injection h with h; injection h with h1 h2; injection h2 with h2 h3; subst h2; subst h3; subst h1
            exact fin _ rfl (.inl (he (res.val, vv) (by simp))) hc

/-- The order that a region leaves open does no harm: what an operation looks at is written by operations that it is bound to be behind, or by none. -/
def looks (o : Oper) (ops : Array Oper) : List Nat :=
  o.op.operands.toList.filterMap (fun x => match x with | .tmp t => some t | _ => none) ++
  (match o.guard with
    | some (j, _) => match ops[j]? with
      | some g => g.dst.toList
      | none => []
    | none => [])

def edgeTo (o : Oper) (i : Nat) : Bool := o.after.any fun e => Nat.beq e.on i && Region.binds .any e

def quietAt (ops : Array Oper) (j : Nat) (o : Oper) : Bool :=
  (o.after.all fun e => !(Region.binds .any e) || Nat.ble (e.on + 1) j) &&
  ops.toList.zipIdx.all fun (p, i) => match p.dst with
    | none => true
    | some d => (Nat.beq i j || (match o.dst with | some d' => !(Nat.beq d d') | none => true)) &&
        (!((looks o ops).any fun t => Nat.beq t d) || (Nat.ble (i + 1) j && edgeTo o i) || (Nat.ble (j + 1) i && edgeTo p j))

def quietOk (ops : Array Oper) : Bool := ops.toList.zipIdx.all fun (o, j) => quietAt ops j o

theorem quietOk_spec {ops : Array Oper} (h : quietOk ops = true) {j : Nat} {o : Oper} (hj : ops[j]? = some o) :
    (∀ e ∈ o.after, Region.binds .any e = true → e.on < j) ∧
    ∀ (i : Nat) (p : Oper) (d : Nat), ops[i]? = some p → p.dst = some d → (i = j ∨ o.dst ≠ some d) ∧ (d ∈ looks o ops → (i < j ∧ ∃ e ∈ o.after, e.on = i ∧ Region.binds .any e = true) ∨ (j < i ∧ ∃ e ∈ p.after, e.on = j ∧ Region.binds .any e = true)) := by
  have hm : (o, j) ∈ ops.toList.zipIdx := by
    rw [List.mem_zipIdx_iff_getElem?]; simpa using hj
  have h1 := List.all_eq_true.1 h _ hm
  simp only [quietAt, Bool.and_eq_true] at h1
  refine ⟨fun e he hb => ?_, fun i p d hi hd => ?_⟩
  · have := Array.all_eq_true'.1 h1.1 e he
    simp only [Bool.or_eq_true, Bool.not_eq_true'] at this
    rcases this with this | this
    · rw [hb] at this; cases this
    · exact Nat.le_of_ble_eq_true this
  · have hm2 : (p, i) ∈ ops.toList.zipIdx := by
      rw [List.mem_zipIdx_iff_getElem?]; simpa using hi
    have h2 := List.all_eq_true.1 h1.2 _ hm2
    simp only [hd, Bool.and_eq_true, Bool.or_eq_true, Bool.not_eq_true'] at h2
    refine ⟨?_, fun hl => ?_⟩
    · rcases h2.1 with h3 | h3
      · exact .inl (nbE h3)
      · right
        intro e
        rw [e] at h3; simp only [Bool.not_eq_true'] at h3
        rw [nbT rfl] at h3; cases h3
    · rcases h2.2 with (h3 | h3) | h3
      · exfalso
        have := List.any_eq_false.1 h3 d hl
        rw [nbT rfl] at this; simp at this
      · refine .inl ⟨Nat.le_of_ble_eq_true h3.1, ?_⟩
        have h4 := h3.2
        simp only [edgeTo, Array.any_eq_true', Bool.and_eq_true] at h4
        obtain ⟨e, he1, he2, he3⟩ := h4
        exact ⟨e, he1, nbE he2, he3⟩
      · refine .inr ⟨Nat.le_of_ble_eq_true h3.1, ?_⟩
        have h4 := h3.2
        simp only [edgeTo, Array.any_eq_true', Bool.and_eq_true] at h4
        obtain ⟨e, he1, he2, he3⟩ := h4
        exact ⟨e, he1, nbE he2, he3⟩

/-- The region gone through in its own order: each operation's value. -/
def runQ (cf : Cfg) (ops : Array Oper) (ov : Ov) (O : Tab) : List Oper → (T RV) → List Bool → List (RV × RV) → Option (T RV × List Bool × List (RV × RV))
  | [], t, cs, es => some (t, cs, es)
  | o :: r, t, cs, es => match qVal cf ops ov (regOf t) O o with
    | none => none
    | some (v, c, e) => match o.dst with
      | none => runQ cf ops ov O r t (cs ++ c) (es ++ e)
      | some d => bif Nat.ble d 8000 then runQ cf ops ov O r (t.set d (some v)) (cs ++ c) (es ++ e) else none

theorem runQ_mono {cf : Cfg} {ops : Array Oper} {ov : Ov} {O : Tab} : ∀ (l : List Oper) (t t' : T RV) (cs cs' : List Bool) (es es' : List (RV × RV)), runQ cf ops ov O l t cs es = some (t', cs', es') →
    (∀ c ∈ cs, c ∈ cs') ∧ (∀ e ∈ es, e ∈ es') ∧ (∀ d, (∀ o ∈ l, o.dst ≠ some d) → regOf t' d = regOf t d)
  | [], t, t', cs, cs', es, es', h => by
    simp [runQ] at h; obtain ⟨rfl, rfl, rfl⟩ := h; exact ⟨fun _ h => h, fun _ h => h, fun _ _ => rfl⟩
  | o :: r, t, t', cs, cs', es, es', h => by
    simp only [runQ] at h
    cases h1 : qVal cf ops ov (regOf t) O o with
    | none => rw [h1] at h; simp at h
    | some p =>
      obtain ⟨v, c, e⟩ := p
      rw [h1] at h; simp only at h
      cases hd : o.dst with
      | none =>
        rw [hd] at h; simp only at h
        obtain ⟨q1, q2, q3⟩ := runQ_mono r _ _ _ _ _ _ h
        exact ⟨fun c hc => q1 c (by simp [hc]), fun e he => q2 e (by simp [he]), fun d hh => q3 d (fun o ho => hh o (by simp [ho]))⟩
      | some d0 =>
        rw [hd] at h; simp only at h
        cases hb : Nat.ble d0 8000 with
        | false => rw [hb] at h; simp at h
        | true =>
          rw [hb] at h; simp only [cond_true] at h
          obtain ⟨q1, q2, q3⟩ := runQ_mono r _ _ _ _ _ _ h
          have hle := Nat.le_of_ble_eq_true hb
          refine ⟨fun c hc => q1 c (by simp [hc]), fun e he => q2 e (by simp [he]), fun d hh => ?_⟩
          rw [q3 d (fun o ho => hh o (by simp [ho])), regOf_set (by omega)]
          have : d ≠ d0 := fun e => hh o (by simp) (by rw [hd, e])
          simp [setR, this]

/-- What stands before each operation, and what it gives. -/
theorem runQ_at {cf : Cfg} {ops : Array Oper} {ov : Ov} {O : Tab} : ∀ (l : List Oper) (t t' : T RV) (cs cs' : List Bool) (es es' : List (RV × RV)), runQ cf ops ov O l t cs es = some (t', cs', es') →
    (∀ (i j : Nat) (p q : Oper) (d : Nat), l[i]? = some p → l[j]? = some q → p.dst = some d → q.dst = some d → i = j) →
    ∀ (j : Nat) (o : Oper), l[j]? = some o → ∃ (R : Nat → RV) (v : RV) (c : List Bool) (e : List (RV × RV)), qVal cf ops ov R O o = some (v, c, e) ∧ (∀ x ∈ c, x ∈ cs') ∧ (∀ x ∈ e, x ∈ es') ∧
      (∀ d, o.dst = some d → regOf t' d = v) ∧ (∀ d, (∀ (i : Nat) (p : Oper), i < j → l[i]? = some p → p.dst ≠ some d) → R d = regOf t d) ∧
      (∀ (i : Nat) (p : Oper) (d : Nat), i < j → l[i]? = some p → p.dst = some d → R d = regOf t' d)
  | [], t, t', cs, cs', es, es', h, hnd, j, o, hj => by simp at hj
  | o0 :: r, t, t', cs, cs', es, es', h, hnd, j, o, hj => by
    simp only [runQ] at h
    cases h1 : qVal cf ops ov (regOf t) O o0 with
    | none => rw [h1] at h; simp at h
    | some p =>
      obtain ⟨v, c, e⟩ := p
      rw [h1] at h; simp only at h
      have hnd' : ∀ (i j : Nat) (p q : Oper) (d : Nat), r[i]? = some p → r[j]? = some q → p.dst = some d → q.dst = some d → i = j := fun i j p q d hi hj' hp hq => by
        have := hnd (i + 1) (j + 1) p q d (by simpa using hi) (by simpa using hj') hp hq; omega
      -- the table behind the first operation
      have tail : ∀ (t1 : T RV), runQ cf ops ov O r t1 (cs ++ c) (es ++ e) = some (t', cs', es') → (∀ d, o0.dst ≠ some d → regOf t1 d = regOf t d) → (∀ d, o0.dst = some d → regOf t1 d = v) →
          ∃ (R : Nat → RV) (v : RV) (c : List Bool) (e : List (RV × RV)), qVal cf ops ov R O o = some (v, c, e) ∧ (∀ x ∈ c, x ∈ cs') ∧ (∀ x ∈ e, x ∈ es') ∧
            (∀ d, o.dst = some d → regOf t' d = v) ∧ (∀ d, (∀ (i : Nat) (p : Oper), i < j → (o0 :: r)[i]? = some p → p.dst ≠ some d) → R d = regOf t d) ∧
            (∀ (i : Nat) (p : Oper) (d : Nat), i < j → (o0 :: r)[i]? = some p → p.dst = some d → R d = regOf t' d) := by
        intro t1 hr ht1 ht2
        obtain ⟨m1, m2, m3⟩ := runQ_mono r _ _ _ _ _ _ hr
        cases j with
        | zero =>
          simp at hj; subst hj
          refine ⟨regOf t, v, c, e, h1, fun x hx => m1 x (by simp [hx]), fun x hx => m2 x (by simp [hx]), fun d hd => ?_, fun d _ => rfl, fun i p d hi => by omega⟩
          rw [m3 d (fun q hq hqd => by
            obtain ⟨k, hk⟩ := List.mem_iff_getElem?.1 hq
            have := hnd 0 (k + 1) o0 q d rfl (by simpa using hk) hd hqd; omega)]
          exact ht2 d hd
        | succ j =>
          obtain ⟨R, v', c', e', k1, k2, k3, k4, k5, k6⟩ := runQ_at r t1 t' _ _ _ _ hr hnd' j o (by simpa using hj)
          refine ⟨R, v', c', e', k1, k2, k3, k4, fun d hd => ?_, fun i p d hi hp hpd => ?_⟩
          · rw [k5 d (fun i p hi hp => hd (i + 1) p (by omega) (by simpa using hp))]
            exact ht1 d (hd 0 o0 (by omega) rfl)
          · cases i with
            | zero =>
              simp at hp; subst hp
              rw [k5 d (fun i q hi hq hqd => by
                have := hnd 0 (i + 1) o0 q d rfl (by simpa using hq) hpd hqd; omega)]
              rw [m3 d (fun q hq hqd => by
                obtain ⟨k, hk⟩ := List.mem_iff_getElem?.1 hq
                have := hnd 0 (k + 1) o0 q d rfl (by simpa using hk) hpd hqd; omega)]
            | succ i => exact k6 i p d (by omega) (by simpa using hp) hpd
      cases hd : o0.dst with
      | none =>
        rw [hd] at h; simp only at h
        exact tail t h (fun _ _ => rfl) (fun d hh => by rw [hd] at hh; cases hh)
      | some d0 =>
        rw [hd] at h; simp only at h
        cases hb : Nat.ble d0 8000 with
        | false => rw [hb] at h; simp at h
        | true =>
          rw [hb] at h; simp only [cond_true] at h
          have hle := Nat.le_of_ble_eq_true hb
          refine tail _ h (fun d hh => ?_) (fun d hh => ?_)
          · rw [regOf_set (by omega)]
            have : d ≠ d0 := fun e => hh (by rw [hd, e])
            simp [setR, this]
          · rw [regOf_set (by omega)]
            rw [hd] at hh; injection hh with hh; subst hh
            simp [setR]

theorem mem_ready {md : Region.Mode} {ops : Array Oper} {L : Array Bool} {i : Nat} (h : i ∈ Region.ready md ops L) :
    ∃ o, ops[i]? = some o ∧ i < ops.size ∧ L.getD i true = false ∧ ∀ e ∈ o.after, Region.binds md e = true → L.getD e.on false = true := by
  simp only [Region.ready, List.mem_filter, List.mem_range, Bool.and_eq_true, Bool.not_eq_true'] at h
  obtain ⟨h1, h2, h3⟩ := h
  have ho : ops[i]? = some ops[i] := by simp [h1]
  rw [ho] at h3
  simp only [Option.map_some, Option.getD_some] at h3
  refine ⟨_, ho, h1, h2, fun e he hb => ?_⟩
  have := Array.all_eq_true'.1 h3 e he
  simp only [Bool.or_eq_true, Bool.not_eq_true'] at this
  rcases this with this | this
  · rw [hb] at this; cases this
  · exact this

theorem ready_nil {md : Region.Mode} {ops : Array Oper} {L : Array Bool} (hL : L.size = ops.size) (hed : ∀ (j : Nat) (o : Oper), ops[j]? = some o → ∀ e ∈ o.after, Region.binds md e = true → e.on < j)
    (h : Region.ready md ops L = []) : ∀ i, i < ops.size → L.getD i true = true := by
  intro i
  induction i using Nat.strongRecOn with
  | _ i ih =>
    intro hi
    cases hl : L.getD i true with
    | true => rfl
    | false =>
      exfalso
      have ho : ops[i]? = some ops[i] := by simp [hi]
      have : i ∈ Region.ready md ops L := by
        simp only [Region.ready, List.mem_filter, List.mem_range, Bool.and_eq_true, Bool.not_eq_true']
        refine ⟨hi, hl, ?_⟩
        rw [ho]; simp only [Option.map_some, Option.getD_some]
        rw [Array.all_eq_true']
        intro e he
        cases hb : Region.binds md e with
        | false => simp
        | true =>
          have hlt := hed i _ ho e he hb
          have := ih e.on hlt (by omega)
          have hlt2 : e.on < L.size := by omega
          simp [Array.getD, hlt2] at this
          simp [Array.getD, hlt2, this]
      rw [h] at this; simp at this

open Classical in
/-- The registers when the operations of 'L' are through. -/
noncomputable def mixR (ops : Array Oper) (R0 R1 : Nat → RV) (L : Array Bool) (t : Nat) : RV :=
  if ∃ i o, ops[i]? = some o ∧ o.dst = some t ∧ L.getD i false = true then R1 t else R0 t

theorem count_set {L : Array Bool} {i : Nat} (hi : i < L.size) (h : L.getD i true = false) : (L.setIfInBounds i true).toList.countP (· == false) + 1 = L.toList.countP (· == false) := by
  rw [Array.toList_setIfInBounds]
  have hi' : i < L.toList.length := by simpa using hi
  have hv : L.toList[i] = false := by simpa [Array.getD, hi] using h
  clear h hi
  generalize L.toList = l at *
  induction l generalizing i with
  | nil => simp at hi'
  | cons x l ih =>
    cases i with
    | zero => simp at hv; subst hv; simp
    | succ i =>
      simp only [List.set_cons_succ, List.countP_cons]
      have := ih (by simpa using hi') (by simpa using hv)
      omega

theorem all_listed {L : Array Bool} (h : L.toList.countP (· == false) = 0) : ∀ i, i < L.size → L.getD i true = true := by
  intro i hi
  have h1 := List.countP_eq_zero.1 h L[i] (by simp)
  cases e : L[i] with
  | true => simp [Array.getD, hi, e]
  | false => rw [e] at h1; simp at h1

theorem quiet_any {cf : Cfg} (hcf : CfOk P cf) {ops : Array Oper} {ov : Ov} {s : SSt} {t t' : T RV} {cs : List Bool} {es : List (RV × RV)} {m : Nat} {κ0 : Kap} {w0 : World} {φ0 : Phi}
    (hq : quietOk ops = true) (hg : guardsOk s.n ops = true) (hs : s.R = regOf t) (hrun : runQ cf ops ov s.O ops.toList t [] [] = some (t', cs, es)) (hc : ∀ c ∈ cs, c = true) (he : ∀ e ∈ es, RVle e.1 e.2) :
    (∀ (fuel : Nat) (L : Array Bool) (κ : Kap) (φ : Phi) (w : World) (a : Act), L.size = ops.size → L.toList.countP (· == false) = fuel →
      (∀ (j : Nat) (o : Oper), ops[j]? = some o → L.getD j false = true → ∀ e ∈ o.after, Region.binds .any e = true → L.getD e.on false = true) → FRel κ φ w { s with R := mixR ops s.R (regOf t') L } a →
      Fr κ0 w0 κ w → KpM m φ0 s.O φ s.O →
      wpAny P .any ops (fun e a' w' => e = .normal ∧ ∃ κ' φ', FRel κ' φ' w' { s with R := regOf t' } a' ∧ Fr κ0 w0 κ' w' ∧ KpM m φ0 s.O φ' s.O) fuel L a w) := by
  have hnd : ∀ (i j : Nat) (p q : Oper) (d : Nat), ops.toList[i]? = some p → ops.toList[j]? = some q → p.dst = some d → q.dst = some d → i = j := by
    intro i j p q d hi hj hp hqd
    rcases ((quietOk_spec hq (j := j) (o := q) (by simpa using hj)).2 i p d (by simpa using hi) hp).1 with h | h
    · exact h
    · exact absurd hqd h
  have hat := runQ_at ops.toList t t' [] cs [] es hrun hnd
  have hout := (runQ_mono ops.toList t t' [] cs [] es hrun).2.2
  have full : ∀ (L : Array Bool), L.size = ops.size → (∀ i, i < ops.size → L.getD i true = true) → mixR ops s.R (regOf t') L = regOf t' := by
    intro L hL hall
    funext d
    unfold mixR
    split
    · rfl
    · rename_i hne
      rw [hs, hout d (fun o ho hd => hne ?_)]
      obtain ⟨i, hi⟩ := List.mem_iff_getElem?.1 ho
      have hi' : ops[i]? = some o := by simpa using hi
      have hlt := (Array.getElem?_eq_some_iff.1 hi').1
      have hlt2 : i < L.size := by omega
      have := hall i hlt
      exact ⟨i, o, hi', hd, by simp [Array.getD, hlt2] at this ⊢; exact this⟩
  intro fuel
  induction fuel with
  | zero =>
    intro L κ φ w a hL hcnt hcl F hR hK
    have hall := all_listed hcnt
    rw [full L hL (fun i hi => hall i (by omega))] at F
    refine ⟨?_, rfl, κ, φ, F, hR, hK⟩
    cases hr : Region.ready .any ops L with
    | nil => rfl
    | cons i r =>
      obtain ⟨o, _, h1, h2, _⟩ := mem_ready (md := .any) (ops := ops) (L := L) (i := i) (by rw [hr]; simp)
      rw [hall i (by omega)] at h2; cases h2
  | succ fuel ih =>
    intro L κ φ w a hL hcnt hcl F hR hK
    refine ⟨fun hr => ?_, fun j hj => ?_⟩
    · have hall := ready_nil hL (fun j o ho => (quietOk_spec hq ho).1) hr
      rw [full L hL hall] at F
      exact ⟨rfl, κ, φ, F, hR, hK⟩
    · obtain ⟨o, ho, hjn, hlj, hedges⟩ := mem_ready hj
      obtain ⟨R, v, c, e, k1, k2, k3, k4, k5, k6⟩ := hat j o (by simpa using ho)
      obtain ⟨s1, s2⟩ := quietOk_spec hq ho
      -- what it looks at is as it was in the region's own order
      have same : ∀ d, d ∈ looks o ops → mixR ops s.R (regOf t') L d = R d := by
        intro d hd
        by_cases hw : ∃ (i : Nat) (p : Oper), ops[i]? = some p ∧ p.dst = some d
        · obtain ⟨i, p, hi, hp⟩ := hw
          rcases (s2 i p d hi hp).2 hd with ⟨hij, ed, he1, he2, he3⟩ | ⟨hij, ed, he1, he2, he3⟩
          · have hli : L.getD i false = true := by rw [← he2]; exact hedges ed he1 he3
            unfold mixR
            rw [if_pos ⟨i, p, hi, hp, hli⟩]
            exact (k6 i p d hij (by simpa using hi) hp).symm
          · have hljf : L.getD j false = false := by
              have : j < L.size := by omega
              simp [Array.getD, this] at hlj ⊢; exact hlj
            have only : ∀ (i' : Nat) (p' : Oper), ops[i']? = some p' → p'.dst = some d → i' = i := fun i' p' h1 h2 => hnd i' i p' p d (by simpa using h1) (by simpa using hi) h2 hp
            unfold mixR
            rw [if_neg (fun ⟨i', p', h1, h2, h3⟩ => by
              have e := only i' p' h1 h2
              subst e
              rw [h1] at hi; injection hi with hi; subst hi
              have := hcl i' p' h1 h3 ed he1 he3
              rw [he2, hljf] at this; cases this), hs]
            exact (k5 d (fun i' p' h0 h1 h2 => by have := only i' p' (by simpa using h1) h2; omega)).symm
        · unfold mixR
          rw [if_neg (fun ⟨i, p, hi, hp, _⟩ => hw ⟨i, p, hi, hp⟩), hs]
          exact (k5 d (fun i p _ hp hpd => hw ⟨i, p, by simpa using hp, hpd⟩)).symm
      have hqv : qVal cf ops ov (mixR ops s.R (regOf t') L) s.O o = some (v, c, e) := by
        rw [← k1]
        have h1 : guardOf (mixR ops s.R (regOf t') L) ops o = guardOf R ops o := by
          unfold guardOf
          cases hgu : o.guard with
          | none => rfl
          | some p =>
            obtain ⟨g, want⟩ := p
            simp only
            cases hog : ops[g]? with
            | none => rfl
            | some gg =>
              simp only
              cases hgd : gg.dst with
              | none => rfl
              | some d =>
                simp only
                rw [same d (by simp only [looks, List.mem_append]; right; rw [hgu]; simp only [hog, hgd]; simp)]
        have h2 : exOp cf (mixR ops s.R (regOf t') L) s.O 0 o = exOp cf R s.O 0 o := exOp_congr fun x hx => rvOf_congr fun d hd => by
          subst hd
          refine same d ?_
          simp only [looks, List.mem_append, List.mem_filterMap]
          left
          exact ⟨.tmp d, by simpa using hx, rfl⟩
        unfold qVal
        rw [h1, h2]
      refine qVal_wp hcf F hqv (fun x hx => hc x (k2 x hx)) (fun x hx => he x (k3 x hx)) ho (guardsOk_spec hg) (fun a' w' κ' φ' g1 g2 g3 => ?_)
      have hset : setD (mixR ops s.R (regOf t') L) o.dst v = mixR ops s.R (regOf t') (L.setIfInBounds j true) := by
        funext d
        have hget : ∀ i, (L.setIfInBounds j true).getD i false = if i = j then true else L.getD i false := by
          intro i
          simp only [Array.getD_eq_getD_getElem?, Array.getElem?_setIfInBounds]
          by_cases e : i = j
          · subst e; have : i < L.size := by omega
            simp [this]
          · have : ¬ j = i := fun h => e h.symm
            simp [e, this]
        cases hd : o.dst with
        | none =>
          simp only [setD]
          unfold mixR
          congr 1
          apply propext
          constructor
          · rintro ⟨i, p, h1, h2, h3⟩
            exact ⟨i, p, h1, h2, by rw [hget]; split; rfl; exact h3⟩
          · rintro ⟨i, p, h1, h2, h3⟩
            rw [hget] at h3
            by_cases e : i = j
            · subst e; rw [ho] at h1; injection h1 with h1; subst h1; rw [hd] at h2; cases h2
            · rw [if_neg e] at h3; exact ⟨i, p, h1, h2, h3⟩
        | some d0 =>
          simp only [setD, setR]
          by_cases e0 : d = d0
          · subst e0
            rw [if_pos rfl]
            unfold mixR
            rw [if_pos ⟨j, o, ho, hd, by rw [hget]; simp⟩, k4 d hd]
          · rw [if_neg e0]
            unfold mixR
            congr 1
            apply propext
            constructor
            · rintro ⟨i, p, h1, h2, h3⟩
              exact ⟨i, p, h1, h2, by rw [hget]; split; rfl; exact h3⟩
            · rintro ⟨i, p, h1, h2, h3⟩
              rw [hget] at h3
              by_cases e : i = j
              · subst e; rw [ho] at h1; injection h1 with h1; subst h1; rw [hd] at h2; injection h2 with h2; exact absurd h2.symm e0
              · rw [if_neg e] at h3; exact ⟨i, p, h1, h2, h3⟩
      have g1' : FRel κ' φ' w' { s with R := mixR ops s.R (regOf t') (L.setIfInBounds j true) } a' := by rw [← hset]; exact g1
      have hc2 := count_set (L := L) (i := j) (by omega) hlj
      have hget : ∀ i, (L.setIfInBounds j true).getD i false = if i = j then true else L.getD i false := by
        intro i
        simp only [Array.getD_eq_getD_getElem?, Array.getElem?_setIfInBounds]
        by_cases e : i = j
        · subst e; have : i < L.size := by omega
          simp [this]
        · have : ¬ j = i := fun h => e h.symm
          simp [e, this]
      have hcl' : ∀ (j' : Nat) (o' : Oper), ops[j']? = some o' → (L.setIfInBounds j true).getD j' false = true → ∀ e ∈ o'.after, Region.binds .any e = true → (L.setIfInBounds j true).getD e.on false = true := by
        intro j' o' ho' hl' e he' hb'
        rw [hget] at hl' ⊢
        split
        · rfl
        · by_cases ej : j' = j
          · subst ej; rw [ho] at ho'; injection ho' with ho'; subst ho'; exact hedges e he' hb'
          · rw [if_neg ej] at hl'; exact hcl j' o' ho' hl' e he' hb'
      exact ih (L.setIfInBounds j true) κ' φ' w' a' (by simpa using hL) (by omega) hcl' g1' (hR.trans g2) (hK.trans (g3.m m))

end Go.Am

/-
  The abstract machine: an operation gives the same on any table that agrees where it looks.
-/
namespace Go.Am
variable {P : Program}

def Le (O O' : Tab) : Prop := ∀ i p, O i = some p → O' i = some p

theorem Le.updO {O O' : Tab} (h : Le O O') (u : List (Nat × PObj)) : Le (Am.updO O u) (Am.updO O' u) := by
  induction u generalizing O O' with
  | nil => exact h
  | cons x r ih =>
    refine ih (fun i p hi => ?_)
    have hi' : setT O x.1 (some x.2) i = some p := hi
    show setT O' x.1 (some x.2) i = some p
    by_cases e : i = x.1
    · subst e; rw [setT_same] at hi' ⊢; exact hi'
    · rw [setT_ne _ _ e] at hi' ⊢; exact h i p hi'

theorem tkCell_mono {O O' : Tab} (h : Le O O') {v : RV} {r : DV × List (Nat × PObj) × List Bool} (hx : tkCell O v = some r) : tkCell O' v = some r := by
  cases v with
  | own i sz =>
    cases ho : O i with
    | none => simp [tkCell, ho] at hx
    | some p => simp only [tkCell, ho] at hx; simp only [tkCell, h i p ho]; exact hx
  | sub i sz off len =>
    cases ho : O i with
    | none => simp [tkCell, ho] at hx
    | some p => simp only [tkCell, ho] at hx; simp only [tkCell, h i p ho]; exact hx
  | _ => exact hx

theorem tkCells_mono {O O' : Tab} (h : Le O O') : ∀ {l : List RV} {r : List DV × List (Nat × PObj) × List Bool}, tkCells O l = some r → tkCells O' l = some r
  | [], r, hx => hx
  | v :: l, r, hx => by
    simp only [tkCells] at hx ⊢
    cases h1 : tkCell O v with
    | none => rw [h1] at hx; simp at hx
    | some p =>
      cases h2 : tkCells O l with
      | none => rw [h1, h2] at hx; simp at hx
      | some q =>
        rw [h1, h2] at hx
        rw [tkCell_mono h h1, tkCells_mono h h2]; exact hx

theorem tkDV_mono {O O' : Tab} (h : Le O O') {v : RV} {r : DV × List (Nat × PObj) × List Bool} (hx : tkDV O v = some r) : tkDV O' v = some r := by
  cases v with
  | agg cs =>
    simp only [tkDV] at hx ⊢
    cases h2 : tkCells O cs with
    | none => rw [h2] at hx; simp at hx
    | some q => rw [h2] at hx; rw [tkCells_mono h h2]; exact hx
  | _ => simp only [tkDV] at hx ⊢; exact tkCell_mono h hx

theorem tkAll_mono {O O' : Tab} (h : Le O O') : ∀ {l : List (Nat × RV)} {r : List (Nat × DV) × List (Nat × PObj) × List Bool}, tkAll O l = some r → tkAll O' l = some r
  | [], r, hx => hx
  | (i, v) :: l, r, hx => by
    simp only [tkAll] at hx ⊢
    cases h1 : tkDV O v with
    | none => rw [h1] at hx; simp at hx
    | some p =>
      cases h2 : tkAll O l with
      | none => rw [h1, h2] at hx; simp at hx
      | some q =>
        rw [h1, h2] at hx
        rw [tkDV_mono h h1, tkAll_mono h h2]; exact hx

theorem prepCell_mono {O O' : Tab} (h : Le O O') {v : RV} {r : RV × List (Nat × PObj) × List Bool} (hx : prepCell O v = some r) : prepCell O' v = some r := by
  unfold prepCell at hx ⊢
  cases ho : isOwn v with
  | false => rw [ho] at hx; exact hx
  | true =>
    rw [ho] at hx; simp only [cond_true] at hx ⊢
    cases h1 : tkCell O v with
    | none => rw [h1] at hx; simp at hx
    | some p => rw [h1] at hx; rw [tkCell_mono h h1]; exact hx
theorem prepCells_mono {O O' : Tab} (h : Le O O') : ∀ {l : List RV} {r : List RV × List (Nat × PObj) × List Bool}, prepCells O l = some r → prepCells O' l = some r
  | [], r, hx => hx
  | v :: l, r, hx => by
    simp only [prepCells] at hx ⊢
    cases h1 : prepCell O v with
    | none => rw [h1] at hx; simp at hx
    | some p =>
      cases h2 : prepCells O l with
      | none => rw [h1, h2] at hx; simp at hx
      | some q =>
        rw [h1, h2] at hx
        rw [prepCell_mono h h1, prepCells_mono h h2]; exact hx
theorem prepRV_mono {O O' : Tab} (h : Le O O') {v : RV} {r : RV × List (Nat × PObj) × List Bool} (hx : prepRV O v = some r) : prepRV O' v = some r := by
  cases v with
  | agg cs =>
    simp only [prepRV] at hx ⊢
    cases h2 : prepCells O cs with
    | none => rw [h2] at hx; simp at hx
    | some q => rw [h2] at hx; rw [prepCells_mono h h2]; exact hx
  | _ => simp only [prepRV] at hx ⊢; exact prepCell_mono h hx
theorem prepAll_mono {O O' : Tab} (h : Le O O') : ∀ {l : List RV} {r : List RV × List (Nat × PObj) × List Bool}, prepAll O l = some r → prepAll O' l = some r
  | [], r, hx => hx
  | v :: l, r, hx => by
    simp only [prepAll] at hx ⊢
    cases h1 : prepRV O v with
    | none => rw [h1] at hx; simp at hx
    | some p =>
      cases h2 : prepAll O l with
      | none => rw [h1, h2] at hx; simp at hx
      | some q =>
        rw [h1, h2] at hx
        rw [prepRV_mono h h1, prepAll_mono h h2]; exact hx

theorem elsOf_mono {O O' : Tab} (h : Le O O') {v : RV} {r : Nat × List DV × List Bool} (hx : elsOf O v = some r) : elsOf O' v = some r := by
  cases v with
  | own i sz =>
    cases ho : O i with
    | none => simp [elsOf, ho] at hx
    | some p => simp only [elsOf, ho] at hx; simp only [elsOf, h i p ho]; exact hx
  | sub i sz off len =>
    cases ho : O i with
    | none => simp [elsOf, ho] at hx
    | some p => simp only [elsOf, ho] at hx; simp only [elsOf, h i p ho]; exact hx
  | d x => cases x <;> exact hx
  | _ => exact hx

theorem srcEls_mono {O O' : Tab} (h : Le O O') {v : RV} {r : Nat × List DV × List Bool} (hx : srcEls O v = some r) : srcEls O' v = some r := by
  cases v with
  | d x => cases x with
    | str s => exact hx
    | _ => simp only [srcEls] at hx ⊢; exact elsOf_mono h hx
  | _ => simp only [srcEls] at hx ⊢; exact elsOf_mono h hx

theorem exLoad_mono {E : Env} {O O' : Tab} (h : Le O O') {t : Nat} {v : RV} {r : Res} (hx : exLoad E O t v = some r) : exLoad E O' t v = some r := by
  unfold exLoad at hx ⊢
  cases hz : E.size t with
  | none => rw [hz] at hx; simp at hx
  | some z =>
    rw [hz] at hx; simp only at hx ⊢
    cases v with
    | ptr i off =>
      simp only at hx ⊢
      cases ho : O i with
      | none => rw [ho] at hx; simp at hx
      | some p => rw [ho] at hx; rw [h i p ho]; exact hx
    | eptr i sz idx off =>
      simp only at hx ⊢
      cases ho : O i with
      | none => rw [ho] at hx; simp at hx
      | some p => rw [ho] at hx; rw [h i p ho]; exact hx
    | _ => exact hx

theorem exStore_mono {E : Env} {O O' : Tab} (h : Le O O') {t : Nat} {a v : RV} {r : Res} (hx : exStore E O t a v = some r) : exStore E O' t a v = some r := by
  unfold exStore at hx ⊢
  cases hz : E.size t with
  | none => rw [hz] at hx; simp at hx
  | some z =>
    rw [hz] at hx; simp only at hx ⊢
    cases a with
    | ptr i off =>
      simp only at hx ⊢
      cases ho : O i with
      | none => rw [ho] at hx; simp at hx
      | some p => rw [ho] at hx; rw [h i p ho]; exact hx
    | eptr i sz idx off =>
      simp only at hx ⊢
      cases ho : O i with
      | none => rw [ho] at hx; simp at hx
      | some p =>
        rw [ho] at hx; rw [h i p ho]
        cases p with
        | arr ty sz' els =>
          simp only at hx ⊢
          cases hb : Nat.beq sz' sz with
          | false => rw [hb] at hx; simp at hx
          | true =>
            rw [hb] at hx; simp only [cond_true] at hx ⊢
            cases h1 : tkDV O v with
            | none => rw [h1] at hx; simp at hx
            | some q => rw [h1] at hx; rw [tkDV_mono h h1]; exact hx
        | _ => exact hx
    | _ => exact hx

theorem exLen_mono {E : Env} {O O' : Tab} (h : Le O O') {t : Nat} {v : RV} {r : Res} (hx : exLen E O t v = some r) : exLen E O' t v = some r := by
  unfold exLen at hx ⊢
  split at hx
  · exact hx
  · exact hx
  · rename_i i _ hu
    cases ho : O i with
    | none => rw [ho] at hx; simp at hx
    | some p => rw [ho] at hx; rw [h i p ho]; exact hx
  · exact hx
  · exact hx
  · exact hx
  · rename_i i hu
    cases ho : O i with
    | none => rw [ho] at hx; simp at hx
    | some p => rw [ho] at hx; rw [h i p ho]; exact hx
  · cases hx

theorem exIndexAddr_mono {E : Env} {O O' : Tab} (h : Le O O') {t : Nat} {v j : RV} {r : Res} (hx : exIndexAddr E O t v j = some r) : exIndexAddr E O' t v j = some r := by
  unfold exIndexAddr at hx ⊢
  split at hx
  · split at hx
    · exact hx
    · rename_i k sz hu
      cases ho : O k with
      | none => rw [ho] at hx; simp at hx
      | some p => rw [ho] at hx; rw [h k p ho]; exact hx
    · exact hx
    · rename_i k off hu
      cases ho : O k with
      | none => rw [ho] at hx; simp at hx
      | some p => rw [ho] at hx; rw [h k p ho]; exact hx
    · cases hx
  · cases hx

theorem exSlice_mono {E : Env} {O O' : Tab} (h : Le O O') {t : Nat} {v : RV} {lo hi mx : Option RV} {r : Res} (hx : exSlice E O t v lo hi mx = some r) : exSlice E O' t v lo hi mx = some r := by
  unfold exSlice at hx ⊢
  split at hx
  · split at hx
    · exact hx
    · exact hx
    · rename_i i sz hu
      cases ho : O i with
      | none => rw [ho] at hx; simp at hx
      | some p => rw [ho] at hx; simp only [h i p ho]; exact hx
    · exact hx
    · rename_i i off hu
      cases ho : O i with
      | none => rw [ho] at hx; simp at hx
      | some p => rw [ho] at hx; simp only [h i p ho]; exact hx
    · cases hx
  · exact hx
  · cases hx

theorem exConv_mono {E : Env} {O O' : Tab} (h : Le O O') {sl : Nat} (hs : O' sl = O sl) {s d : Nat} {v : RV} {r : Res} (hx : exConv E O sl s d v = some r) : exConv E O' sl s d v = some r := by
  unfold exConv at hx ⊢
  rw [hs]
  split at hx
  · exact hx
  · exact hx
  · exact hx
  · rename_i v _ _ _ e hu1 hu2 hne
    cases hb : isU8 (E.und e) with
    | false => rw [hb] at hx; simp at hx
    | true =>
      rw [hb] at hx; simp only [cond_true] at hx ⊢
      cases h1 : elsOf O v with
      | none => rw [h1] at hx; simp at hx
      | some q => rw [h1] at hx; rw [elsOf_mono h h1]; exact hx
  · cases hx

theorem exBuildSlice_mono {E : Env} {O O' : Tab} (h : Le O O') {sl : Nat} (hs : O' sl = O sl) {t n : Nat} {parts : List (Nat × RV)} {r : Res} (hx : exBuildSlice E O sl t n parts = some r) : exBuildSlice E O' sl t n parts = some r := by
  unfold exBuildSlice at hx ⊢
  rw [hs]
  split at hx
  · rename_i e h1 h2
    split at hx
    · rename_i sz z h3 h4
      cases h5 : tkAll O parts with
      | none => rw [h5] at hx; simp at hx
      | some q => rw [h5] at hx; rw [tkAll_mono h h5]; exact hx
    · cases hx
  · cases hx

theorem exAppend_mono {E : Env} {O O' : Tab} (h : Le O O') {sl : Nat} (hs : O' sl = O sl) (hs1 : O' (sl + 1) = O (sl + 1)) {t : Nat} {s x : RV} {r : Res} (hx : exAppend E O sl t s x = some r) : exAppend E O' sl t s x = some r := by
  have hsl : ∀ i, O' (bif Nat.beq i sl then sl + 1 else sl) = O (bif Nat.beq i sl then sl + 1 else sl) := fun i => by cases Nat.beq i sl <;> simp [hs, hs1]
  unfold exAppend at hx ⊢
  split at hx
  · rename_i e hu
    split at hx
    · rename_i z by_ sx xs cx h1 h2 h3
      rw [h1, h2, srcEls_mono h h3]
      simp only
      cases hb : ((Nat.beq sx z || xs.isEmpty) && Nat.ble 1 z && Nat.ble 1 by_ && zeroOk E e z) with
      | false => rw [hb] at hx; simp at hx
      | true =>
        rw [hb] at hx; simp only [cond_true] at hx ⊢
        split at hx
        · simp only [hs]; exact hx
        · rename_i i sz
          (try simp only)
          cases hb2 : Nat.beq sz z with
          | false => rw [hb2] at hx; simp at hx
          | true =>
            rw [hb2] at hx; simp only [cond_true] at hx ⊢
            cases ho : O i with
            | none => rw [ho] at hx; simp at hx
            | some p => rw [ho] at hx; rw [h i p ho]; simp only [hsl]; exact hx
        · rename_i i sz off len
          (try simp only)
          cases hb2 : (Nat.beq sz z && Nat.beq off 0) with
          | false => rw [hb2] at hx; simp at hx
          | true =>
            rw [hb2] at hx; simp only [cond_true] at hx ⊢
            cases ho : O i with
            | none => rw [ho] at hx; simp at hx
            | some p => rw [ho] at hx; rw [h i p ho]; simp only [hsl]; exact hx
        · cases hx
    · cases hx
  · cases hx

theorem exMakeFunc_mono {O O' : Tab} (h : Le O O') {fn : Fn} {fs cs : List RV} {r : Res} (hx : exMakeFunc O fn fs cs = some r) : exMakeFunc O' fn fs cs = some r := by
  unfold exMakeFunc at hx ⊢
  cases h1 : prepAll O (fs ++ cs) with
  | none => rw [h1] at hx; simp at hx
  | some q => rw [h1] at hx; rw [prepAll_mono h h1]; exact hx


theorem reach_sub (O : Tab) : ∀ (n : Nat) (todo done : List Nat) (i : Nat), i ∈ done → i ∈ reach O n todo done
  | 0, _, done, i, h => by simp [reach, h]
  | n + 1, [], done, i, h => by simp [reach, h]
  | n + 1, x :: todo, done, i, h => by
    simp only [reach]
    cases (done.any fun j => Nat.beq j x) with
    | true => simp only [cond_true]; exact reach_sub O n todo done i h
    | false => simp only [cond_false]; exact reach_sub O n _ _ i (by simp [h])

theorem reach_mono {O O' : Tab} (h : Le O O') : ∀ (n : Nat) (todo done : List Nat), (∀ i ∈ reach O n todo done, O i ≠ none) → reach O' n todo done = reach O n todo done
  | 0, _, _, _ => by simp [reach]
  | n + 1, [], done, _ => by simp [reach]
  | n + 1, x :: todo, done, hr => by
    simp only [reach] at hr ⊢
    cases hb : (done.any fun j => Nat.beq j x) with
    | true =>
      rw [hb] at hr; simp only [cond_true] at hr ⊢
      exact reach_mono h n todo done hr
    | false =>
      rw [hb] at hr; simp only [cond_false] at hr ⊢
      have hx := hr x (reach_sub O n _ _ x (by simp))
      have e : O' x = O x := by
        cases ho : O x with
        | none => exact absurd ho hx
        | some p => exact h x p ho
      rw [e]
      exact reach_mono h n _ _ hr

theorem mapO_congr {α β : Type} {f g : α → Option β} : ∀ (l : List α), (∀ x ∈ l, f x = g x) → mapO f l = mapO g l
  | [], _ => rfl
  | x :: l, h => by simp only [mapO]; rw [h x (by simp), mapO_congr l (fun y hy => h y (by simp [hy]))]

theorem mapO_some {α β : Type} {f : α → Option β} : ∀ {l : List α} {r : List β}, mapO f l = some r → ∀ x ∈ l, ∃ y, f x = some y
  | [], _, _, x, hx => by simp at hx
  | a :: l, r, h, x, hx => by
    simp only [mapO] at h
    cases h1 : f a with
    | none => rw [h1] at h; simp at h
    | some y =>
      cases h2 : mapO f l with
      | none => rw [h1, h2] at h; simp at h
      | some q =>
        rcases List.mem_cons.1 hx with rfl | hx
        · exact ⟨y, h1⟩
        · exact mapO_some h2 x hx

theorem updO_agree {O O' : Tab} : ∀ (u : List (Nat × PObj)) (i : Nat), O' i = O i → updO O' u i = updO O u i := by
  intro u
  induction u generalizing O O' with
  | nil => intro i h; exact h
  | cons x r ih =>
    intro i h
    refine ih i ?_
    show setT O' x.1 (some x.2) i = setT O x.1 (some x.2) i
    by_cases e : i = x.1
    · subst e; rw [setT_same, setT_same]
    · rw [setT_ne _ _ e, setT_ne _ _ e]; exact h

theorem zipU_keys : ∀ (qs : List Nat) (ps : List PObj), qs.length ≤ ps.length → ∀ i ∈ qs, ∃ p, (i, p) ∈ zipU qs ps
  | [], _, _, i, h => by simp at h
  | q :: qs, [], hl, _, _ => by simp at hl
  | q :: qs, p :: ps, hl, i, h => by
    rcases List.mem_cons.1 h with rfl | h
    · exact ⟨p, by simp [zipU]⟩
    · obtain ⟨p', hp⟩ := zipU_keys qs ps (by simpa using hl) i h
      exact ⟨p', by simp [zipU, hp]⟩

theorem exCallF_mono {K : Kon} {byref : Bool} {O O' : Tab} (h : Le O O') {sl f : Nat} {args : List RV} {r : Res} (hx : exCallF K byref O sl f args = some r) (hk : ∀ p ∈ r.upd, O' p.1 = O p.1) : exCallF K byref O' sl f args = some r := by
  unfold exCallF at hx ⊢
  have hpre : ∀ q, (bif byref then some (args, [], []) else prepAll O args) = some q → (bif byref then some (args, [], []) else prepAll O' args) = some q := by
    intro q hq
    cases byref with
    | true => exact hq
    | false => exact prepAll_mono h hq
  cases h1 : (bif byref then some (args, [], []) else prepAll O args) with
  | none => rw [h1] at hx; simp at hx
  | some q =>
    rw [hpre q h1]
    rw [h1] at hx
    obtain ⟨args1, u, c⟩ := q
    simp only at hx ⊢
    generalize hps : reach (updO O u) 64 (args1.flatMap (RV.refs 6)) [] = ps at hx
    split at hx
    · rename_i args2 objs h2 h3
      · have hu := h.updO u
        have hsome : ∀ i ∈ ps, updO O u i ≠ none := fun i hi hn => by
          obtain ⟨y, hy⟩ := mapO_some h3 i hi
          rw [hn] at hy; simp at hy
        have hps' : reach (updO O' u) 64 (args1.flatMap (RV.refs 6)) [] = ps := by
          rw [← hps]; exact reach_mono hu _ _ _ (by rw [hps]; exact hsome)
        have hag : ∀ i ∈ ps, updO O' u i = updO O u i := fun i hi => by
          cases ho : updO O u i with
          | none => exact absurd ho (hsome i hi)
          | some p => exact hu i p ho
        rw [hps', h2, (mapO_congr ps (fun i hi => by simp only [hag i hi])).trans h3]
        simp only
        cases h4 : K f args2 objs with
        | none => rw [h4] at hx; simp at hx
        | some q4 =>
          obtain ⟨r4, objs', c2⟩ := q4
          rw [h4] at hx; simp only at hx ⊢
          generalize hnw : news sl (objs'.length - ps.length) = nw at hx
          cases h5 : (nodupB ps && nodupB (ps ++ nw) && Nat.ble ps.length objs'.length && nw.all (fun i => (updO O u i).isNone)) with
          | false => rw [h5] at hx; simp at hx
          | true =>
            rw [h5] at hx; simp only [cond_true] at hx
            cases h6 : mapO (PObj.ren (fun j => (ps ++ nw)[j]?)) objs' with
            | none => rw [h6] at hx; simp at hx
            | some objs'' =>
              cases h7 : RV.ren (fun j => (ps ++ nw)[j]?) 6 r4 with
              | none => rw [h6, h7] at hx; simp at hx
              | some r'' =>
                rw [h6, h7] at hx; simp only [Option.some.injEq] at hx
                subst hx
                simp only [Bool.and_eq_true] at h5
                have hlen : (ps ++ nw).length ≤ objs''.length := by
                  have a1 := (mapO_spec _ objs' objs'' h6).1
                  have a2 := Nat.le_of_ble_eq_true h5.1.2
                  have a3 : nw.length = objs'.length - ps.length := by rw [← hnw]; simp [news]
                  simp only [List.length_append]; omega
                have hnone : nw.all (fun i => (updO O' u i).isNone) = true := by
                  rw [List.all_eq_true]
                  intro i hi
                  obtain ⟨p, hp⟩ := zipU_keys (ps ++ nw) objs'' hlen i (by simp [hi])
                  rw [updO_agree u i (hk (i, p) (by simp [hp]))]
                  exact List.all_eq_true.1 h5.2 i hi
                rw [h5.1.1.1, h5.1.1.2, h5.1.2, hnone]
                rfl
    · cases hx

theorem isNilSl_mono {O O' : Tab} (h : Le O O') {x : RV} {b : Bool} (hx : isNilSl O x = some b) : isNilSl O' x = some b := by
  unfold isNilSl at hx ⊢
  split at hx
  · exact hx
  · rename_i i sz
    cases hO : O i with
    | none => rw [hO] at hx; simp at hx
    | some p => rw [hO] at hx; rw [h _ _ hO]; exact hx
  · exact hx
  · cases hx

theorem exBinO_mono {E : Env} {O O' : Tab} (h : Le O O') {op : BinOp} {t : Nat} {x y : RV} {r : Res} (hx : exBinO E O op t x y = some r) : exBinO E O' op t x y = some r := by
  unfold exBinO at hx ⊢
  split at hx
  · unfold exNilCmp at hx ⊢
    split at hx
    · rename_i e b hu hb
      rw [hu, isNilSl_mono h hb]; exact hx
    · cases hx
  · exact hx

theorem rowsOf_mono {O O' : Tab} (h : Le O O') {x : RV} {es : List (DV × DV)} (hx : rowsOf O x = some es) : rowsOf O' x = some es := by
  unfold rowsOf at hx ⊢
  split at hx
  · exact hx
  · rename_i i
    cases hO : O i with
    | none => rw [hO] at hx; simp at hx
    | some p => rw [hO] at hx; rw [h i p hO]; exact hx
  · cases hx

theorem exLookup_mono {E : Env} {O O' : Tab} (h : Le O O') {t : Nat} {x k : RV} {ok : Bool} {r : Res} (hx : exLookup E O t x k ok = some r) : exLookup E O' t x k ok = some r := by
  unfold exLookup at hx ⊢
  split at hx
  · rename_i kt et es kd hu hr
    rw [hu, rowsOf_mono h hr]; exact hx
  · cases hx

theorem exMapUpdate_mono {E : Env} {O O' : Tab} (h : Le O O') {t : Nat} {m k y : RV} {r : Res} (hx : exMapUpdate E O t m k y = some r) : exMapUpdate E O' t m k y = some r := by
  unfold exMapUpdate at hx ⊢
  split at hx
  · rename_i kt et i kd hu
    split at hx
    · rename_i yd u c es h1 h2
      rw [tkDV_mono h h1, h _ _ h2]; exact hx
    · cases hx
  · cases hx

theorem exDelete_mono {E : Env} {O O' : Tab} (h : Le O O') {t : Nat} {m k : RV} {r : Res} (hx : exDelete E O t m k = some r) : exDelete E O' t m k = some r := by
  unfold exDelete at hx ⊢
  split at hx
  · rename_i kt et i kd hu
    split at hx
    · rename_i es h1
      rw [h _ _ h1]; exact hx
    · cases hx
  · cases hx

theorem clearAt_mono {E : Env} {O O' : Tab} (h : Le O O') {e i sz off len : Nat} {r : Res} (hx : clearAt E O e i sz off len = some r) : clearAt E O' e i sz off len = some r := by
  unfold clearAt at hx ⊢
  split at hx
  · rename_i sz' els z zz h1 h2 h3
    rw [h _ _ h1, h2, h3]; exact hx
  · cases hx

theorem exClear_mono {E : Env} {O O' : Tab} (h : Le O O') {t : Nat} {x : RV} {r : Res} (hx : exClear E O t x = some r) : exClear E O' t x = some r := by
  unfold exClear at hx ⊢
  split at hx
  · rename_i e i sz hu
    split at hx
    · rename_i sz' els h1
      rw [h _ _ h1]; exact clearAt_mono h hx
    · cases hx
  · rename_i e i sz off len hu
    exact clearAt_mono h hx
  · cases hx

theorem exOp_mono {cf : Cfg} {R : Nat → RV} {O O' : Tab} (h : Le O O') {sl : Nat} (hs : O' sl = O sl) (hs1 : O' (sl + 1) = O (sl + 1)) {o : Oper} {res : Res} {un : Bool} (hx : exOp cf R O sl o = some (res, un))
    (hk : ∀ p ∈ res.upd, O' p.1 = O p.1) : exOp cf R O' sl o = some (res, un) := by
  unfold exOp at hx ⊢
  have val : ∀ {r r' : Option Res}, (match r with | some r => some (r, false) | none => none) = some (res, un) → (r = some res → r' = some res) → (match r' with | some r => some (r, false) | none => none) = some (res, un) := by
    intro r r' h1 h2
    cases r with
    | none => simp at h1
    | some r => simp at h1; obtain ⟨rfl, rfl⟩ := h1; rw [h2 rfl]
  have valD : ∀ {r : Option Res}, (match r with | some r => some (r, false) | none => none) = some (res, un) → r = some res := by
    intro r h1
    cases r with
    | none => simp at h1
    | some r => simp at h1; rw [h1.1]
  cases ho : o.op <;> rw [ho] at hx <;> (try simp only at hx ⊢) <;> try exact hx
  case alloc t =>
    cases hz : cf.E.zero t with
    | none => rw [hz] at hx; simp at hx
    | some z =>
      rw [hz] at hx; simp only at hx ⊢
      refine val hx fun e => ?_
      unfold exAlloc at e ⊢; rw [hs]; exact e
  case box t x => refine val hx fun e => ?_; unfold exAlloc at e ⊢; rw [hs]; exact e
  case buildSlice t n parts => exact val hx fun e => exBuildSlice_mono h hs e
  case load t x => exact val hx fun e => exLoad_mono h e
  case store t x y =>
    cases h1 : exStore cf.E O t (rvOf R x) (rvOf R y) with
    | none => rw [h1] at hx; simp at hx
    | some r => rw [h1] at hx; rw [exStore_mono h h1]; exact hx
  case binOp op t x y yt => exact val hx fun e => exBinO_mono h e
  case convert s d x => exact val hx fun e => exConv_mono h hs e
  case slice t x lo hi mx => exact val hx fun e => exSlice_mono h e
  case indexAddr t x i => exact val hx fun e => exIndexAddr_mono h e
  case makeFunc fn first caps => exact val hx fun e => exMakeFunc_mono h e
  case makeSlice t l c => refine val hx fun e => ?_; unfold exMakeSlice at e ⊢; rw [hs]; exact e
  case makeMap t hh => refine val hx fun e => ?_; unfold exMakeMap at e ⊢; rw [hs]; exact e
  case lookup t x i ok => exact val hx fun e => exLookup_mono h e
  case mapUpdate t m k y =>
    cases h1 : exMapUpdate cf.E O t (rvOf R m) (rvOf R k) (rvOf R y) with
    | none => rw [h1] at hx; simp at hx
    | some r => rw [h1] at hx; rw [exMapUpdate_mono h h1]; exact hx
  case call c =>
    cases hc : c.callee with
    | builtin b =>
      rw [hc] at hx; simp only at hx ⊢
      refine val hx fun e => ?_
      unfold exBuiltin at e ⊢
      split at e
      · exact exLen_mono h e
      · rename_i t t2 x y _ _
        cases hn : notIntB (cf.E.und t2) with
        | false => rw [hn] at e; simp at e
        | true => rw [hn] at e; simp only [cond_true] at e ⊢; exact exAppend_mono h hs hs1 e
      · exact e
      · exact e
      · exact exDelete_mono h e
      · exact exClear_mono h e
      · cases e
    | value f =>
      rw [hc] at hx; simp only at hx ⊢
      split at hx
      · rename_i g first caps hg
        cases hok : cf.callOk g with
        | false => rw [hok] at hx; simp at hx
        | true =>
          rw [hok] at hx; simp only [cond_true] at hx ⊢
          exact val hx fun e => exCallF_mono h e hk
      · cases hx
    | _ => rw [hc] at hx; simp at hx

end Go.Am

/-
  The abstract machine: regions that draw their order, whose operations change objects: what two operations both touch, they touch in a bound order.
-/
namespace Go.Am
variable {P : Program}

def keysU (u : List (Nat × PObj)) : List Nat := u.map (·.1)

theorem updO_not {u : List (Nat × PObj)} : ∀ {O : Tab} {i : Nat}, i ∉ keysU u → updO O u i = O i := by
  induction u with
  | nil => intro O i _; rfl
  | cons x r ih =>
    intro O i h
    simp only [keysU, List.map_cons, List.mem_cons, not_or] at h
    show updO (setT O x.1 (some x.2)) r i = O i
    rw [ih h.2, setT_ne _ _ h.1]
theorem updO_in {u : List (Nat × PObj)} : ∀ {O O' : Tab} {i : Nat}, i ∈ keysU u → updO O u i = updO O' u i := by
  induction u with
  | nil => intro O O' i h; simp [keysU] at h
  | cons x r ih =>
    intro O O' i h
    show updO (setT O x.1 (some x.2)) r i = updO (setT O' x.1 (some x.2)) r i
    by_cases hr : i ∈ keysU r
    · exact ih hr
    · have e : i = x.1 := by
        simp only [keysU, List.map_cons, List.mem_cons] at h
        rcases h with h | h
        · exact h
        · exact absurd h hr
      rw [updO_not hr, updO_not hr, e, setT_same, setT_same]

/-- The table when those operations are through that 'L' names. -/
def mixT (L : Nat → Bool) : Nat → List (List (Nat × PObj)) → Tab → Tab
  | _, [], O => O
  | k, u :: us, O => mixT L (k + 1) us (bif L k then updO O u else O)

theorem mixT_agree {L M : Nat → Bool} {i : Nat} : ∀ (us : List (List (Nat × PObj))) (k : Nat) (O O' : Tab), O i = O' i → (∀ (j : Nat) (u : List (Nat × PObj)), us[j]? = some u → i ∈ keysU u → L (k + j) = M (k + j)) →
    mixT L k us O i = mixT M k us O' i
  | [], _, _, _, h, _ => h
  | u :: us, k, O, O', h, hj => by
    simp only [mixT]
    refine mixT_agree us (k + 1) _ _ ?_ (fun j u' hu hi => by have := hj (j + 1) u' (by simpa using hu) hi; rw [show k + 1 + j = k + (j + 1) by omega]; exact this)
    by_cases hi : i ∈ keysU u
    · have := hj 0 u rfl hi
      rw [Nat.add_zero] at this
      rw [this]
      cases M k with
      | true => simp only [cond_true]; exact updO_in hi
      | false => simp only [cond_false]; exact h
    · have key : ∀ (b : Bool) (X : Tab), (bif b then updO X u else X) i = X i := fun b X => by cases b <;> simp [updO_not hi]
      rw [key, key]; exact h

theorem mixT_none {L : Nat → Bool} : ∀ (us : List (List (Nat × PObj))) (k : Nat) (O : Tab), (∀ j, j < us.length → L (k + j) = false) → mixT L k us O = O
  | [], _, _, _ => rfl
  | u :: us, k, O, h => by
    simp only [mixT]
    have := h 0 (by simp); rw [Nat.add_zero] at this
    rw [this, cond_false]
    exact mixT_none us (k + 1) O (fun j hj => by rw [show k + 1 + j = k + (j + 1) by omega]; exact h (j + 1) (by simpa using hj))

/-- The first so many operations. -/
theorem mixT_take : ∀ (us : List (List (Nat × PObj))) (k n : Nat) (O : Tab), mixT (fun x => decide (x < k + n)) k us O = (us.take n).foldl updO O
  | [], _, n, O => by simp [mixT]
  | u :: us, k, 0, O => by
    rw [List.take_zero, List.foldl_nil]
    exact mixT_none _ _ _ (fun j _ => by simp)
  | u :: us, k, n + 1, O => by
    simp only [mixT, List.take_succ_cons, List.foldl_cons]
    have : decide (k < k + (n + 1)) = true := by simp
    rw [this, cond_true, ← mixT_take us (k + 1) n]
    congr 1
    funext x
    congr 1
    apply propext; omega

/-- One operation more. -/
theorem mixT_insert {L L' : Nat → Bool} : ∀ (us : List (List (Nat × PObj))) (k j : Nat) (u : List (Nat × PObj)) (O : Tab), us[j]? = some u → L (k + j) = false → L' (k + j) = true → (∀ x, x ≠ k + j → L' x = L x) →
    (∀ (x : Nat) (u' : List (Nat × PObj)), j < x → us[x]? = some u' → L (k + x) = true → ∀ i ∈ keysU u, i ∉ keysU u') → mixT L' k us O = updO (mixT L k us O) u
  | [], _, _, _, _, h, _, _, _, _ => by simp at h
  | a :: us, k, 0, u, O, h, h1, h2, h3, h4 => by
    simp at h; subst h
    simp only [mixT]
    rw [Nat.add_zero] at h1 h2 h3
    rw [h1, h2, cond_true, cond_false]
    -- the rest is the same, and does not touch a's keys
    have rest : ∀ (vs : List (List (Nat × PObj))) (k' : Nat) (X : Tab), (∀ j, L' (k' + j) = L (k' + j)) → (∀ (x : Nat) (u' : List (Nat × PObj)), vs[x]? = some u' → L (k' + x) = true → ∀ i ∈ keysU a, i ∉ keysU u') →
        mixT L' k' vs (updO X a) = updO (mixT L k' vs X) a := by
      intro vs
      induction vs with
      | nil => intro k' X _ _; rfl
      | cons b vs ih =>
        intro k' X e1 e2
        simp only [mixT]
        have e0 := e1 0; rw [Nat.add_zero] at e0
        rw [e0]
        have r1 : ∀ j, L' (k' + 1 + j) = L (k' + 1 + j) := fun j => by have := e1 (j + 1); rw [show k' + 1 + j = k' + (j + 1) by omega]; exact this
        have r2 : ∀ (x : Nat) (u' : List (Nat × PObj)), vs[x]? = some u' → L (k' + 1 + x) = true → ∀ i ∈ keysU a, i ∉ keysU u' := fun x u' hu hl => by
          exact e2 (x + 1) u' (by simpa using hu) (by rw [show k' + (x + 1) = k' + 1 + x by omega]; exact hl)
        cases hL : L k' with
        | false => simp only [cond_false]; exact ih (k' + 1) X r1 r2
        | true =>
          simp only [cond_true]
          have hdis := e2 0 b rfl (by rw [Nat.add_zero]; exact hL)
          have comm : updO (updO X a) b = updO (updO X b) a := by
            funext i
            by_cases ha : i ∈ keysU a
            · have hb := hdis i ha
              rw [updO_not hb]; exact updO_in ha
            · rw [updO_not ha (O := updO X b)]
              by_cases hb : i ∈ keysU b
              · exact updO_in hb
              · rw [updO_not hb, updO_not hb, updO_not ha]
          rw [comm]
          exact ih (k' + 1) _ r1 r2
    exact rest us (k + 1) O (fun j => h3 _ (by omega)) (fun x u' hu hl => h4 (x + 1) u' (by omega) (by simpa using hu) (by rw [show k + (x + 1) = k + 1 + x by omega]; exact hl))
  | a :: us, k, j + 1, u, O, h, h1, h2, h3, h4 => by
    simp only [mixT]
    rw [h3 k (by omega)]
    exact mixT_insert us (k + 1) j u _ (by simpa using h) (by rw [show k + 1 + j = k + (j + 1) by omega]; exact h1) (by rw [show k + 1 + j = k + (j + 1) by omega]; exact h2)
      (fun x hx => h3 x (by omega)) (fun x u' hx hu hl => h4 (x + 1) u' (by omega) (by simpa using hu) (by rw [show k + (x + 1) = k + 1 + x by omega]; exact hl))

/-- Which operation is bound to be before which. -/
inductive Before (ops : Array Oper) : Nat → Nat → Prop
  | edge {j k : Nat} {o : Oper} (ho : ops[j]? = some o) {e : Edge} (he : e ∈ o.after) (hb : Region.binds .any e = true) (hk : e.on = k) : Before ops k j
  | step {j k : Nat} {o : Oper} (ho : ops[j]? = some o) {e : Edge} (he : e ∈ o.after) (hb : Region.binds .any e = true) (hk : Before ops k e.on) : Before ops k j

def bitB (m k : Nat) : Bool := Nat.beq (m / 2 ^ k % 2) 1
theorem bitB_eq (m k : Nat) : bitB m k = m.testBit k := by
  rw [Nat.testBit_eq_decide_div_mod_eq]
  unfold bitB
  by_cases h : m / 2 ^ k % 2 = 1
  · rw [nbT h, decide_eq_true h]
  · rw [nbF h, decide_eq_false h]

def ancOf (acc : List Nat) (o : Oper) : Nat := o.after.toList.foldl (fun m e => bif Region.binds .any e then (m ||| 2 ^ e.on) ||| acc.getD e.on 0 else m) 0
def ancs : List Oper → List Nat → List Nat
  | [], acc => acc
  | o :: r, acc => ancs r (acc ++ [ancOf acc o])

theorem ancOf_spec {ops : Array Oper} {acc : List Nat} {o : Oper} {j : Nat} (ho : ops[j]? = some o) (hacc : ∀ (i k : Nat), (acc.getD i 0).testBit k = true → Before ops k i) {k : Nat} (h : (ancOf acc o).testBit k = true) : Before ops k j := by
  unfold ancOf at h
  have key : ∀ (l : List Edge) (m : Nat), (∀ e ∈ l, e ∈ o.after) → (m.testBit k = true → Before ops k j) →
      (l.foldl (fun m e => bif Region.binds .any e then (m ||| 2 ^ e.on) ||| acc.getD e.on 0 else m) m).testBit k = true → Before ops k j := by
    intro l
    induction l with
    | nil => intro m _ hm h; exact hm h
    | cons e l ih =>
      intro m hl hm h
      simp only [List.foldl_cons] at h
      refine ih _ (fun x hx => hl x (by simp [hx])) (fun h2 => ?_) h
      cases hb : Region.binds .any e with
      | false => rw [hb] at h2; exact hm h2
      | true =>
        rw [hb] at h2; simp only [cond_true, Nat.testBit_or, Bool.or_eq_true, Nat.testBit_two_pow, decide_eq_true_eq] at h2
        rcases h2 with (h2 | h2) | h2
        · exact hm h2
        · exact .edge ho (hl e (by simp)) hb h2
        · exact .step ho (hl e (by simp)) hb (hacc _ _ h2)
  exact key o.after.toList 0 (fun e he => by simpa using he) (fun h => by simp at h) h

theorem ancs_spec {ops : Array Oper} : ∀ (l : List Oper) (acc : List Nat), (∀ (i : Nat) (o : Oper), l[i]? = some o → ops[acc.length + i]? = some o) → (∀ (i k : Nat), (acc.getD i 0).testBit k = true → Before ops k i) →
    ∀ (i k : Nat), ((ancs l acc).getD i 0).testBit k = true → Before ops k i
  | [], acc, _, h => h
  | o :: r, acc, hl, h => by
    refine ancs_spec r (acc ++ [ancOf acc o]) (fun i o' hi => ?_) (fun i k hk => ?_)
    · have := hl (i + 1) o' (by simpa using hi)
      rw [← this]; congr 1; simp; omega
    · rcases Nat.lt_trichotomy i acc.length with hi | hi | hi
      · refine h i k ?_
        rw [List.getD_eq_getElem?_getD, List.getElem?_append_left hi] at hk
        rw [List.getD_eq_getElem?_getD]; exact hk
      · subst hi
        rw [List.getD_eq_getElem?_getD, List.getElem?_append_right (Nat.le_refl _)] at hk
        simp at hk
        exact ancOf_spec (by simpa using hl 0 o rfl) h hk
      · rw [List.getD_eq_getElem?_getD, List.getElem?_append_right (by omega)] at hk
        have : i - acc.length ≠ 0 := by omega
        simp [this] at hk

theorem Before.done {ops : Array Oper} {L : Nat → Bool} (hL : ∀ (j : Nat) (o : Oper), ops[j]? = some o → L j = true → ∀ e ∈ o.after, Region.binds .any e = true → L e.on = true) {k j : Nat} (h : Before ops k j) (hj : L j = true) : L k = true := by
  induction h with
  | edge ho he hb hk => subst hk; exact hL _ _ ho hj _ he hb
  | step ho he hb _ ih => exact ih (hL _ _ ho hj _ he hb)
theorem Before.ready {ops : Array Oper} {L : Nat → Bool} (hL : ∀ (j : Nat) (o : Oper), ops[j]? = some o → L j = true → ∀ e ∈ o.after, Region.binds .any e = true → L e.on = true) {k j : Nat} (h : Before ops k j)
    (hj : ∀ o, ops[j]? = some o → ∀ e ∈ o.after, Region.binds .any e = true → L e.on = true) : L k = true := by
  cases h with
  | edge ho he hb hk => subst hk; exact hj _ ho _ he hb
  | step ho he hb hk => exact hk.done hL (hj _ ho _ he hb)

end Go.Am

/-
  The abstract machine: regions that draw their order, whose operations change objects: any order gives what the region's own order gives.
-/
namespace Go.Am
variable {P : Program}

def usesO (o : Oper) : Bool := match o.op with
  | .move _ => false
  | .assign _ => false
  | .pick _ _ _ => false
  | .build _ _ => false
  | .nilCheck _ => false
  | .unOp _ _ _ => false
  | .fieldAddr _ _ _ => false
  | .field _ _ _ => false
  | .index _ _ _ => false
  | .extract _ _ => false
  | _ => true

def foot (R : Nat → RV) (O : Tab) (o : Oper) : List Nat := bif usesO o then reach O 64 (o.op.operands.toList.flatMap fun x => (rvOf R x).refs 6) [] else []
def restr (F : List Nat) (O : Tab) : Tab := fun i => bif F.any (fun j => Nat.beq j i) then O i else none
def freshB (O : Tab) (F ks : List Nat) : Bool := ks.all fun i => F.any (fun j => Nat.beq j i) || (O i).isNone
def slotE (n z : Nat) (o : Oper) : Nat := match o.dst with
  | some d => z + 8 * d
  | none => z + 8 * n

def eVal (cf : Cfg) (ops : Array Oper) (ov : Ov) (R : Nat → RV) (O : Tab) (sl : Nat) (o : Oper) : Option (RV × List (Nat × PObj) × List Bool × List (RV × RV)) :=
  match guardOf R ops o with
  | none => none
  | some false => some (.und, [], [], [])
  | some true => match exOp cf R O sl o with
    | none => none
    | some (res, _) => match o.dst with
      | none => some (.bot, res.upd, res.conds, [])
      | some d => match findOv d ov with
        | none => some (res.val, res.upd, res.conds, [])
        | some v => some (v, res.upd, res.conds, [(res.val, v)])

theorem eVal_wp {κ : Kap} {φ : Phi} {w : World} {s : SSt} {a : Act} {cf : Cfg} (hcf : CfOk P cf) {ops : Array Oper} {ov : Ov} {o : Oper} {v : RV} {u : List (Nat × PObj)} {cs : List Bool} {es : List (RV × RV)} {sl : Nat} (F : FRel κ φ w s a)
    (h : eVal cf ops ov s.R s.O sl o = some (v, u, cs, es)) (hc : ∀ c ∈ cs, c = true) (he : ∀ e ∈ es, RVle e.1 e.2) {i : Nat} (hi : ops[i]? = some o)
    (hn : ∀ (j : Nat) (gg : Oper) (t : Nat), ops[j]? = some gg → gg.dst = some t → t < s.n) {Q : Exit → Act → World → Prop} {K : Act → World → Prop}
    (hk : ∀ a' w' κ' φ', FRel κ' φ' w' { s with R := setD s.R o.dst v, O := updO s.O u } a' → Fr κ w κ' w' → Kp φ s.O φ' (updO s.O u) → K a' w') : wpOp P ops Q i K a w := by
  unfold eVal at h
  unfold wpOp
  rw [hi]; simp only
  have hdst : ∀ d, o.dst = some d → d < s.n := fun d hd => hn i o d hi hd
  split at h
  · simp at h
  · rename_i hg
    rw [guard_wanted F hg (fun j want gg t _ hj ht => hn j gg t hj ht)]
    simp only [Bool.false_eq_true, if_false]
    injection h with h; injection h with h1 h2; injection h2 with h2 h3; subst h1; subst h2
    exact hk _ _ κ φ (F.setD hdst .und) (Fr.refl _ _) (Kp.refl _ _)
  · rename_i hg
    rw [guard_wanted F hg (fun j want gg t _ hj ht => hn j gg t hj ht)]
    simp only [if_true]
    left
    split at h
    · simp at h
    · rename_i res un hex
      have fin : ∀ rv, v = rv → u = res.upd → RVle res.val rv ∨ o.dst = none → (∀ c ∈ res.conds, c = true) → o.wp P a w K Q := by
        rintro rv rfl rfl hle hcc
        refine op_wp hcf F (sl := sl) hex hcc (fun u' w' κ' φ' g1 g2 g3 g4 => ?_)
        refine hk _ _ κ' φ' ?_ g3 g4
        rcases hle with hle | hle
        · exact FRel.setD (s := { s with O := updO s.O res.upd }) g1 hdst (hle _ _ _ _ _ g2)
        · rw [hle]
          exact FRel.putNone g1 u'
      split at h
      · rename_i hd
        injection h with h; injection h with h1 h2; injection h2 with h2 h3; injection h3 with h3 h4; subst h3
        exact fin v rfl h2.symm (.inr hd) hc
      · split at h
        · injection h with h; injection h with h1 h2; injection h2 with h2 h3; injection h3 with h3 h4; subst h3
          exact fin v rfl h2.symm (.inl (h1 ▸ fun _ _ _ _ _ r => r)) hc
        · rename_i vv hv
          injection h with h; injection h with h1 h2; injection h2 with h2 h3; injection h3 with h3 h4; subst h3; subst h4; subst h1
          exact fin _ rfl h2.symm (.inl (he (res.val, vv) (by simp))) hc

/-- The region gone through in its own order, each operation on what it looks at alone; what each touches and writes. -/
def runE (cf : Cfg) (ops : Array Oper) (ov : Ov) (n z : Nat) : List Oper → T RV → T PObj → List Bool → List (RV × RV) → List (List Nat × List Nat) → Option (T RV × T PObj × List Bool × List (RV × RV) × List (List Nat × List Nat))
  | [], t, ob, cs, es, rs => some (t, ob, cs, es, rs)
  | o :: r, t, ob, cs, es, rs =>
    match eVal cf ops ov (regOf t) (restr (foot (regOf t) ob.get o) ob.get) (slotE n z o) o with
    | none => none
    | some (v, u, c, e) =>
      bif smallU u && freshB ob.get (foot (regOf t) ob.get o) (slotE n z o :: (slotE n z o + 1) :: keysU u) then
        match o.dst with
        | none => runE cf ops ov n z r t (setAll ob u) (cs ++ c) (es ++ e) (rs ++ [(foot (regOf t) ob.get o ++ slotE n z o :: (slotE n z o + 1) :: keysU u, keysU u)])
        | some d => bif Nat.ble d 8000 then runE cf ops ov n z r (t.set d (some v)) (setAll ob u) (cs ++ c) (es ++ e) (rs ++ [(foot (regOf t) ob.get o ++ slotE n z o :: (slotE n z o + 1) :: keysU u, keysU u)]) else none
      else none

theorem runE_mono {cf : Cfg} {ops : Array Oper} {ov : Ov} {n z : Nat} : ∀ (l : List Oper) (t t' : T RV) (ob ob' : T PObj) (cs cs' : List Bool) (es es' : List (RV × RV)) (rs rs' : List (List Nat × List Nat)),
    runE cf ops ov n z l t ob cs es rs = some (t', ob', cs', es', rs') → (∀ c ∈ cs, c ∈ cs') ∧ (∀ e ∈ es, e ∈ es') ∧ (∀ d, (∀ o ∈ l, o.dst ≠ some d) → regOf t' d = regOf t d)
  | [], t, t', ob, ob', cs, cs', es, es', rs, rs', h => by
    simp [runE] at h; obtain ⟨rfl, rfl, rfl, rfl, rfl⟩ := h; exact ⟨fun _ h => h, fun _ h => h, fun _ _ => rfl⟩
  | o :: r, t, t', ob, ob', cs, cs', es, es', rs, rs', h => by
    simp only [runE] at h
    split at h
    · simp at h
    · rename_i v u c e h1
      cases hb0 : (smallU u && freshB ob.get (foot (regOf t) ob.get o) (slotE n z o :: (slotE n z o + 1) :: keysU u)) with
      | false => rw [hb0] at h; simp at h
      | true =>
        rw [hb0] at h; simp only [cond_true] at h
        cases hd : o.dst with
        | none =>
          rw [hd] at h; simp only at h
          obtain ⟨q1, q2, q3⟩ := runE_mono r _ _ _ _ _ _ _ _ _ _ h
          exact ⟨fun c hc => q1 c (by simp [hc]), fun e he => q2 e (by simp [he]), fun d hh => q3 d (fun o ho => hh o (by simp [ho]))⟩
        | some d0 =>
          rw [hd] at h; simp only at h
          cases hb : Nat.ble d0 8000 with
          | false => rw [hb] at h; simp at h
          | true =>
            rw [hb] at h; simp only [cond_true] at h
            obtain ⟨q1, q2, q3⟩ := runE_mono r _ _ _ _ _ _ _ _ _ _ h
            have hle := Nat.le_of_ble_eq_true hb
            refine ⟨fun c hc => q1 c (by simp [hc]), fun e he => q2 e (by simp [he]), fun d hh => ?_⟩
            rw [q3 d (fun o ho => hh o (by simp [ho])), regOf_set (by omega)]
            have : d ≠ d0 := fun e => hh o (by simp) (by rw [hd, e])
            simp [setR, this]

/-- What stands before each operation, and what it gives. -/
theorem runE_at {cf : Cfg} {ops : Array Oper} {ov : Ov} {n z : Nat} : ∀ (l : List Oper) (t t' : T RV) (ob ob' : T PObj) (cs cs' : List Bool) (es es' : List (RV × RV)) (rs rs' : List (List Nat × List Nat)),
    runE cf ops ov n z l t ob cs es rs = some (t', ob', cs', es', rs') →
    (∀ (i j : Nat) (p q : Oper) (d : Nat), l[i]? = some p → l[j]? = some q → p.dst = some d → q.dst = some d → i = j) →
    ∃ (us : List (List (Nat × PObj))) (rr : List (List Nat × List Nat)), us.length = l.length ∧ rs' = rs ++ rr ∧ rr.length = l.length ∧ ob'.get = us.foldl updO ob.get ∧
    ∀ (j : Nat) (o : Oper), l[j]? = some o → ∃ (R : Nat → RV) (F : List Nat) (v : RV) (u : List (Nat × PObj)) (c : List Bool) (e : List (RV × RV)),
      eVal cf ops ov R (restr F ((us.take j).foldl updO ob.get)) (slotE n z o) o = some (v, u, c, e) ∧ us[j]? = some u ∧ rr[j]? = some (F ++ slotE n z o :: (slotE n z o + 1) :: keysU u, keysU u) ∧
      freshB ((us.take j).foldl updO ob.get) F (slotE n z o :: (slotE n z o + 1) :: keysU u) = true ∧ (∀ x ∈ c, x ∈ cs') ∧ (∀ x ∈ e, x ∈ es') ∧
      (∀ d, o.dst = some d → regOf t' d = v) ∧ (∀ d, (∀ (i : Nat) (p : Oper), i < j → l[i]? = some p → p.dst ≠ some d) → R d = regOf t d) ∧
      (∀ (i : Nat) (p : Oper) (d : Nat), i < j → l[i]? = some p → p.dst = some d → R d = regOf t' d)
  | [], t, t', ob, ob', cs, cs', es, es', rs, rs', h, hnd => by
    simp [runE] at h; obtain ⟨rfl, rfl, rfl, rfl, rfl⟩ := h
    exact ⟨[], [], rfl, by simp, rfl, rfl, fun j o hj => by simp at hj⟩
  | o0 :: r, t, t', ob, ob', cs, cs', es, es', rs, rs', h, hnd => by
    simp only [runE] at h
    split at h
    · simp at h
    · rename_i v u c e h1
      cases hb0 : (smallU u && freshB ob.get (foot (regOf t) ob.get o0) (slotE n z o0 :: (slotE n z o0 + 1) :: keysU u)) with
      | false => rw [hb0] at h; simp at h
      | true =>
        rw [hb0] at h; simp only [cond_true] at h
        simp only [Bool.and_eq_true] at hb0
        have hset := setAll_get u ob hb0.1
        have hnd' : ∀ (i j : Nat) (p q : Oper) (d : Nat), r[i]? = some p → r[j]? = some q → p.dst = some d → q.dst = some d → i = j := fun i j p q d hi hj' hp hq => by
          have := hnd (i + 1) (j + 1) p q d (by simpa using hi) (by simpa using hj') hp hq; omega
        -- the table behind the first operation
        have tail : ∀ (t1 : T RV), runE cf ops ov n z r t1 (setAll ob u) (cs ++ c) (es ++ e) (rs ++ [(foot (regOf t) ob.get o0 ++ slotE n z o0 :: (slotE n z o0 + 1) :: keysU u, keysU u)]) = some (t', ob', cs', es', rs') →
            (∀ d, o0.dst ≠ some d → regOf t1 d = regOf t d) → (∀ d, o0.dst = some d → regOf t1 d = v) →
            ∃ (us : List (List (Nat × PObj))) (rr : List (List Nat × List Nat)), us.length = (o0 :: r).length ∧ rs' = rs ++ rr ∧ rr.length = (o0 :: r).length ∧ ob'.get = us.foldl updO ob.get ∧
            ∀ (j : Nat) (o : Oper), (o0 :: r)[j]? = some o → ∃ (R : Nat → RV) (F : List Nat) (v : RV) (u : List (Nat × PObj)) (c : List Bool) (e : List (RV × RV)),
              eVal cf ops ov R (restr F ((us.take j).foldl updO ob.get)) (slotE n z o) o = some (v, u, c, e) ∧ us[j]? = some u ∧ rr[j]? = some (F ++ slotE n z o :: (slotE n z o + 1) :: keysU u, keysU u) ∧
              freshB ((us.take j).foldl updO ob.get) F (slotE n z o :: (slotE n z o + 1) :: keysU u) = true ∧ (∀ x ∈ c, x ∈ cs') ∧ (∀ x ∈ e, x ∈ es') ∧
              (∀ d, o.dst = some d → regOf t' d = v) ∧ (∀ d, (∀ (i : Nat) (p : Oper), i < j → (o0 :: r)[i]? = some p → p.dst ≠ some d) → R d = regOf t d) ∧
              (∀ (i : Nat) (p : Oper) (d : Nat), i < j → (o0 :: r)[i]? = some p → p.dst = some d → R d = regOf t' d) := by
          intro t1 hr ht1 ht2
          obtain ⟨m1, m2, m3⟩ := runE_mono r _ _ _ _ _ _ _ _ _ _ hr
          obtain ⟨us, rr, a1, a2, a3, a4, a5⟩ := runE_at r t1 t' _ _ _ _ _ _ _ _ hr hnd'
          refine ⟨u :: us, (foot (regOf t) ob.get o0 ++ slotE n z o0 :: (slotE n z o0 + 1) :: keysU u, keysU u) :: rr, by simp [a1], by rw [a2]; simp, by simp [a3], by rw [a4, hset]; rfl, fun j o hj => ?_⟩
          cases j with
          | zero =>
            simp at hj; subst hj
            refine ⟨regOf t, foot (regOf t) ob.get o0, v, u, c, e, h1, rfl, rfl, hb0.2, fun x hx => m1 x (by simp [hx]), fun x hx => m2 x (by simp [hx]), fun d hd => ?_, fun d _ => rfl, fun i p d hi => by omega⟩
            rw [m3 d (fun q hq hqd => by
              obtain ⟨k, hk⟩ := List.mem_iff_getElem?.1 hq
              have := hnd 0 (k + 1) o0 q d rfl (by simpa using hk) hd hqd; omega)]
            exact ht2 d hd
          | succ j =>
            obtain ⟨R, F, v', u', c', e', k1, k2, k3, k4, k5, k6, k7, k8, k9⟩ := a5 j o (by simpa using hj)
            rw [hset] at k1 k4
            refine ⟨R, F, v', u', c', e', by simpa using k1, by simpa using k2, by simpa using k3, by simpa using k4, k5, k6, k7, fun d hd => ?_, fun i p d hi hp hpd => ?_⟩
            · rw [k8 d (fun i p hi hp => hd (i + 1) p (by omega) (by simpa using hp))]
              exact ht1 d (hd 0 o0 (by omega) rfl)
            · cases i with
              | zero =>
                simp at hp; subst hp
                rw [k8 d (fun i q hi hq hqd => by
                  have := hnd 0 (i + 1) o0 q d rfl (by simpa using hq) hpd hqd; omega)]
                rw [m3 d (fun q hq hqd => by
                  obtain ⟨k, hk⟩ := List.mem_iff_getElem?.1 hq
                  have := hnd 0 (k + 1) o0 q d rfl (by simpa using hk) hpd hqd; omega)]
              | succ i => exact k9 i p d (by omega) (by simpa using hp) hpd
        cases hd : o0.dst with
        | none =>
          rw [hd] at h; simp only at h
          exact tail t h (fun _ _ => rfl) (fun d hh => by rw [hd] at hh; cases hh)
        | some d0 =>
          rw [hd] at h; simp only at h
          cases hb : Nat.ble d0 8000 with
          | false => rw [hb] at h; simp at h
          | true =>
            rw [hb] at h; simp only [cond_true] at h
            have hle := Nat.le_of_ble_eq_true hb
            refine tail _ h (fun d hh => ?_) (fun d hh => ?_)
            · rw [regOf_set (by omega)]
              have : d ≠ d0 := fun e => hh (by rw [hd, e])
              simp [setR, this]
            · rw [regOf_set (by omega)]
              rw [hd] at hh; injection hh with hh; subst hh
              simp [setR]

end Go.Am

/-
  The abstract machine: regions that draw their order, whose operations change objects: the theorem.
-/
namespace Go.Am
variable {P : Program}

def hits (a b : List Nat) : Bool := a.any fun i => b.any fun j => Nat.beq j i
theorem hits_of {a b : List Nat} {i : Nat} (h1 : i ∈ a) (h2 : i ∈ b) : hits a b = true :=
  List.any_eq_true.2 ⟨i, h1, List.any_eq_true.2 ⟨i, h2, nbT rfl⟩⟩

def rowsOk (rs : List (List Nat × List Nat)) (ms : List Nat) : Bool := rs.zipIdx.all fun (rj, j) => rs.zipIdx.all fun (rk, k) =>
  !(Nat.ble (k + 1) j) || (!(hits rk.2 rj.1) && !(hits rj.2 rk.1)) || bitB (ms.getD j 0) k

theorem rowsOk_spec {rs : List (List Nat × List Nat)} {ms : List Nat} (h : rowsOk rs ms = true) {j k : Nat} {rj rk : List Nat × List Nat} (hj : rs[j]? = some rj) (hk : rs[k]? = some rk) (hlt : k < j)
    (hh : hits rk.2 rj.1 = true ∨ hits rj.2 rk.1 = true) : (ms.getD j 0).testBit k = true := by
  have h1 := List.all_eq_true.1 h (rj, j) (by rw [List.mem_zipIdx_iff_getElem?]; exact hj)
  have h2 := List.all_eq_true.1 h1 (rk, k) (by rw [List.mem_zipIdx_iff_getElem?]; exact hk)
  simp only [Bool.or_eq_true, Bool.and_eq_true, Bool.not_eq_true'] at h2
  rw [← bitB_eq]
  rcases h2 with (h2 | h2) | h2
  · rw [Nat.ble_eq_true_of_le (by omega)] at h2; cases h2
  · rcases hh with hh | hh
    · rw [h2.1] at hh; cases hh
    · rw [h2.2] at hh; cases hh
  · exact h2

theorem restr_in {F : List Nat} {O : Tab} {i : Nat} (h : (F.any fun j => Nat.beq j i) = true) : restr F O i = O i := by simp [restr, h]
theorem restr_out {F : List Nat} {O : Tab} {i : Nat} (h : (F.any fun j => Nat.beq j i) = false) : restr F O i = none := by simp [restr, h]
theorem any_mem {F : List Nat} {i : Nat} (h : (F.any fun j => Nat.beq j i) = true) : i ∈ F := by
  obtain ⟨j, h1, h2⟩ := List.any_eq_true.1 h
  have := nbE h2; subst this; exact h1

theorem eVal_mono {cf : Cfg} {ops : Array Oper} {ov : Ov} {R R' : Nat → RV} {O O' : Tab} {sl : Nat} {o : Oper} {r : RV × List (Nat × PObj) × List Bool × List (RV × RV)} (h : eVal cf ops ov R O sl o = some r)
    (hg : guardOf R' ops o = guardOf R ops o) (hr : ∀ x ∈ o.op.operands, rvOf R x = rvOf R' x) (hO : Le O O') (hs : O' sl = O sl) (hs1 : O' (sl + 1) = O (sl + 1)) (hk : ∀ p ∈ r.2.1, O' p.1 = O p.1) : eVal cf ops ov R' O' sl o = some r := by
  unfold eVal at h ⊢
  rw [hg]
  split at h
  · cases h
  · exact h
  · split at h
    · cases h
    · rename_i res un hex
      have hu : r.2.1 = res.upd := by
        split at h
        · injection h with h; subst h; rfl
        · split at h <;> (injection h with h; subst h; rfl)
      rw [exOp_congr (R := R) (R' := R') hr] at hex
      rw [exOp_mono hO hs hs1 hex (fun p hp => hk p (by rw [hu]; exact hp))]
      exact h

theorem eff_any {cf : Cfg} (hcf : CfOk P cf) {ops : Array Oper} {ov : Ov} {s : SSt} {t t' : T RV} {ob ob' : T PObj} {cs : List Bool} {es : List (RV × RV)} {rs : List (List Nat × List Nat)} {z m : Nat} {κ : Kap} {φ : Phi} {w : World} {a : Act}
    (hq : quietOk ops = true) (hg : guardsOk s.n ops = true) (hs : s.R = regOf t) (hsO : s.O = ob.get) (hrun : runE cf ops ov s.n z ops.toList t ob [] [] [] = some (t', ob', cs, es, rs))
    (hrows : rowsOk rs (ancs ops.toList []) = true) (hc : ∀ c ∈ cs, c = true) (he : ∀ e ∈ es, RVle e.1 e.2) (F0 : FRel κ φ w s a) :
    wpAny P .any ops (fun e a' w' => e = .normal ∧ ∃ κ' φ', FRel κ' φ' w' { s with R := regOf t', O := ob'.get } a' ∧ Fr κ w κ' w' ∧ KpM m φ s.O φ' ob'.get) ops.size (Array.replicate ops.size false) a w := by
  have hnd : ∀ (i j : Nat) (p q : Oper) (d : Nat), ops.toList[i]? = some p → ops.toList[j]? = some q → p.dst = some d → q.dst = some d → i = j := by
    intro i j p q d hi hj hp hqd
    rcases ((quietOk_spec hq (j := j) (o := q) (by simpa using hj)).2 i p d (by simpa using hi) hp).1 with h | h
    · exact h
    · exact absurd hqd h
  obtain ⟨us, rr, ul, hrs, rl, hob, hat⟩ := runE_at ops.toList t t' ob ob' [] cs [] es [] rs hrun hnd
  rw [List.nil_append] at hrs
  subst hrs
  have hout := (runE_mono ops.toList t t' ob ob' [] cs [] es [] rs hrun).2.2
  have hul : us.length = ops.size := by simpa using ul
  have hanc := ancs_spec (ops := ops) ops.toList [] (fun i o hi => by simpa using hi) (fun i k h => by simp at h)
  have full : ∀ (L : Array Bool), L.size = ops.size → (∀ i, i < ops.size → L.getD i true = true) → mixR ops s.R (regOf t') L = regOf t' ∧ mixT (fun i => L.getD i false) 0 us s.O = ob'.get := by
    intro L hL hall
    have hall2 : ∀ i, i < ops.size → L.getD i false = true := fun i hi => by
      have hlt2 : i < L.size := by omega
      have := hall i hi
      simp [Array.getD, hlt2] at this ⊢; exact this
    constructor
    · funext d
      unfold mixR
      split
      · rfl
      · rename_i hne
        rw [hs, hout d (fun o ho hd => hne ?_)]
        obtain ⟨i, hi⟩ := List.mem_iff_getElem?.1 ho
        have hi' : ops[i]? = some o := by simpa using hi
        exact ⟨i, o, hi', hd, hall2 i (Array.getElem?_eq_some_iff.1 hi').1⟩
    · rw [hob, hsO]
      funext i
      have e1 := mixT_take us 0 us.length ob.get
      rw [List.take_length] at e1
      rw [← e1]
      refine mixT_agree us 0 _ _ rfl (fun j u hu _ => ?_)
      have hj := (List.getElem?_eq_some_iff.1 hu).1
      rw [Nat.zero_add, hall2 j (by omega)]
      simp [hj]
  have main : ∀ (fuel : Nat) (L : Array Bool) (κ1 : Kap) (φ1 : Phi) (w1 : World) (a1 : Act), L.size = ops.size → L.toList.countP (· == false) = fuel →
      (∀ (j : Nat) (o : Oper), ops[j]? = some o → L.getD j false = true → ∀ e ∈ o.after, Region.binds .any e = true → L.getD e.on false = true) →
      FRel κ1 φ1 w1 { s with R := mixR ops s.R (regOf t') L, O := mixT (fun i => L.getD i false) 0 us s.O } a1 →
      Fr κ w κ1 w1 → KpM m φ s.O φ1 (mixT (fun i => L.getD i false) 0 us s.O) →
      wpAny P .any ops (fun e a' w' => e = .normal ∧ ∃ κ' φ', FRel κ' φ' w' { s with R := regOf t', O := ob'.get } a' ∧ Fr κ w κ' w' ∧ KpM m φ s.O φ' ob'.get) fuel L a1 w1 := by
    intro fuel
    induction fuel with
    | zero =>
      intro L κ1 φ1 w1 a1 hL hcnt hcl F hR hK
      have hall := all_listed hcnt
      obtain ⟨f1, f2⟩ := full L hL (fun i hi => hall i (by omega))
      rw [f1, f2] at F
      rw [f2] at hK
      refine ⟨?_, rfl, κ1, φ1, F, hR, hK⟩
      cases hr : Region.ready .any ops L with
      | nil => rfl
      | cons i r =>
        obtain ⟨o, _, h1, h2, _⟩ := mem_ready (md := .any) (ops := ops) (L := L) (i := i) (by rw [hr]; simp)
        rw [hall i (by omega)] at h2; cases h2
    | succ fuel ih =>
      intro L κ1 φ1 w1 a1 hL hcnt hcl F hR hK
      refine ⟨fun hr => ?_, fun j hj => ?_⟩
      · have hall := ready_nil hL (fun j o ho => (quietOk_spec hq ho).1) hr
        obtain ⟨f1, f2⟩ := full L hL hall
        rw [f1, f2] at F
        rw [f2] at hK
        exact ⟨rfl, κ1, φ1, F, hR, hK⟩
      · obtain ⟨o, ho, hjn, hlj, hedges⟩ := mem_ready hj
        obtain ⟨R, Fj, v, u, c, e, k1, k2, k3, k4, kc, ke, k5, k6, k7⟩ := hat j o (by simpa using ho)
        obtain ⟨s1, s2⟩ := quietOk_spec hq ho
        have hljf : L.getD j false = false := by
          have : j < L.size := by omega
          simp [Array.getD, this] at hlj ⊢; exact hlj
        -- what it looks at is as it was in the region's own order
        have same : ∀ d, d ∈ looks o ops → mixR ops s.R (regOf t') L d = R d := by
          intro d hd
          by_cases hw : ∃ (i : Nat) (p : Oper), ops[i]? = some p ∧ p.dst = some d
          · obtain ⟨i, p, hi, hp⟩ := hw
            rcases (s2 i p d hi hp).2 hd with ⟨hij, ed, he1, he2, he3⟩ | ⟨hij, ed, he1, he2, he3⟩
            · have hli : L.getD i false = true := by rw [← he2]; exact hedges ed he1 he3
              unfold mixR
              rw [if_pos ⟨i, p, hi, hp, hli⟩]
              exact (k7 i p d hij (by simpa using hi) hp).symm
            · have only : ∀ (i' : Nat) (p' : Oper), ops[i']? = some p' → p'.dst = some d → i' = i := fun i' p' h1 h2 => hnd i' i p' p d (by simpa using h1) (by simpa using hi) h2 hp
              unfold mixR
              rw [if_neg (fun ⟨i', p', h1, h2, h3⟩ => by
                have e := only i' p' h1 h2
                subst e
                rw [h1] at hi; injection hi with hi; subst hi
                have := hcl i' p' h1 h3 ed he1 he3
                rw [he2, hljf] at this; cases this), hs]
              exact (k6 d (fun i' p' h0 h1 h2 => by have := only i' p' (by simpa using h1) h2; omega)).symm
          · unfold mixR
            rw [if_neg (fun ⟨i, p, hi, hp, _⟩ => hw ⟨i, p, hi, hp⟩), hs]
            exact (k6 d (fun i p _ hp hpd => hw ⟨i, p, by simpa using hp, hpd⟩)).symm
        have guardEq : guardOf (mixR ops s.R (regOf t') L) ops o = guardOf R ops o := by
          unfold guardOf
          cases hgu : o.guard with
          | none => rfl
          | some p =>
            obtain ⟨g, want⟩ := p
            simp only
            cases hog : ops[g]? with
            | none => rfl
            | some gg =>
              simp only
              cases hgd : gg.dst with
              | none => rfl
              | some d =>
                simp only
                rw [same d (by simp only [looks, List.mem_append]; right; rw [hgu]; simp only [hog, hgd]; simp)]
        have regEq : ∀ x ∈ o.op.operands, rvOf R x = rvOf (mixR ops s.R (regOf t') L) x := fun x hx => rvOf_congr fun d hd => by
          subst hd
          refine (same d ?_).symm
          simp only [looks, List.mem_append, List.mem_filterMap]
          left
          exact ⟨.tmp d, by simpa using hx, rfl⟩
        -- who writes what it touches is bound to it
        have rowAt : ∀ (x : Nat) (u' : List (Nat × PObj)), us[x]? = some u' → ∃ tx, rs[x]? = some (tx, keysU u') ∧ ∀ i ∈ keysU u', i ∈ tx := by
          intro x u' hu'
          have hx := (List.getElem?_eq_some_iff.1 hu').1
          have hox : ops.toList[x]? = some ops.toList[x] := by simp [show x < ops.size by omega]
          obtain ⟨_, F', _, u2, _, _, _, g2, g3, _⟩ := hat x _ hox
          rw [hu'] at g2; injection g2 with g2; subst g2
          exact ⟨_, g3, fun i hi => by simp [hi]⟩
        have before : ∀ (x : Nat) (u' : List (Nat × PObj)) (i : Nat), x < j → us[x]? = some u' → i ∈ keysU u' → i ∈ (Fj ++ slotE s.n z o :: (slotE s.n z o + 1) :: keysU u) → L.getD x false = true := by
          intro x u' i hxj hu' hi ht
          obtain ⟨tx, g1, _⟩ := rowAt x u' hu'
          exact (hanc j x (rowsOk_spec hrows k3 g1 hxj (.inl (hits_of hi ht)))).ready (L := fun i => L.getD i false) hcl (fun o' ho' e he hb => by
            rw [ho] at ho'; injection ho' with ho'; subst ho'; exact hedges e he hb)
        have after : ∀ (x : Nat) (u' : List (Nat × PObj)) (i : Nat), j < x → us[x]? = some u' → i ∈ keysU u' → i ∈ (Fj ++ slotE s.n z o :: (slotE s.n z o + 1) :: keysU u) → L.getD x false = false := by
          intro x u' i hxj hu' hi ht
          obtain ⟨tx, g1, _⟩ := rowAt x u' hu'
          cases hlx : L.getD x false with
          | false => rfl
          | true =>
            have := (hanc x j (rowsOk_spec hrows g1 k3 hxj (.inr (hits_of hi ht)))).done (L := fun i => L.getD i false) hcl hlx
            rw [hljf] at this; cases this
        have agree : ∀ i, i ∈ (Fj ++ slotE s.n z o :: (slotE s.n z o + 1) :: keysU u) → mixT (fun i => L.getD i false) 0 us s.O i = (us.take j).foldl updO ob.get i := by
          intro i hi
          have e1 := mixT_take us 0 j ob.get
          rw [← e1, hsO]
          refine mixT_agree us 0 _ _ rfl (fun x u' hu' hk => ?_)
          rw [Nat.zero_add, Nat.zero_add]
          rcases Nat.lt_trichotomy x j with h | h | h
          · rw [before x u' i h hu' hk hi]; simp [h]
          · subst h; rw [hljf]; simp
          · rw [after x u' i h hu' hk hi]
            have : ¬ x < j := by omega
            simp [this]
        have agreeR : ∀ i, i ∈ (slotE s.n z o :: (slotE s.n z o + 1) :: keysU u) → mixT (fun i => L.getD i false) 0 us s.O i = restr Fj ((us.take j).foldl updO ob.get) i := by
          intro i hi
          rw [agree i (List.mem_append.2 (.inr hi))]
          cases hF : (Fj.any fun j => Nat.beq j i) with
          | true => rw [restr_in hF]
          | false =>
            rw [restr_out hF]
            have := List.all_eq_true.1 k4 i hi
            rw [hF] at this
            simpa using this
        have hev : eVal cf ops ov (mixR ops s.R (regOf t') L) (mixT (fun i => L.getD i false) 0 us s.O) (slotE s.n z o) o = some (v, u, c, e) := by
          refine eVal_mono k1 guardEq regEq (fun i p hp => ?_) (agreeR _ (by simp)) (agreeR _ (by simp)) (fun p hp => agreeR _ (by simp [keysU]; exact .inr (.inr ⟨p.2, hp⟩)))
          cases hF : (Fj.any fun j => Nat.beq j i) with
          | true =>
            rw [restr_in hF] at hp
            rw [agree i (List.mem_append.2 (.inl (any_mem hF)))]; exact hp
          | false => rw [restr_out hF] at hp; cases hp
        refine eVal_wp hcf F hev (fun x hx => hc x (kc x hx)) (fun x hx => he x (ke x hx)) ho (guardsOk_spec hg) (fun a' w' κ' φ' g1 g2 g3 => ?_)
        have hget : ∀ i, (L.setIfInBounds j true).getD i false = if i = j then true else L.getD i false := by
          intro i
          simp only [Array.getD_eq_getD_getElem?, Array.getElem?_setIfInBounds]
          by_cases e : i = j
          · subst e; have : i < L.size := by omega
            simp [this]
          · have : ¬ j = i := fun h => e h.symm
            simp [e, this]
        have hset : setD (mixR ops s.R (regOf t') L) o.dst v = mixR ops s.R (regOf t') (L.setIfInBounds j true) := by
          funext d
          cases hd : o.dst with
          | none =>
            simp only [setD]
            unfold mixR
            congr 1
            apply propext
            constructor
            · rintro ⟨i, p, h1, h2, h3⟩
              exact ⟨i, p, h1, h2, by rw [hget]; split; rfl; exact h3⟩
            · rintro ⟨i, p, h1, h2, h3⟩
              rw [hget] at h3
              by_cases e : i = j
              · subst e; rw [ho] at h1; injection h1 with h1; subst h1; rw [hd] at h2; cases h2
              · rw [if_neg e] at h3; exact ⟨i, p, h1, h2, h3⟩
          | some d0 =>
            simp only [setD, setR]
            by_cases e0 : d = d0
            · subst e0
              rw [if_pos rfl]
              unfold mixR
              rw [if_pos ⟨j, o, ho, hd, by rw [hget]; simp⟩, k5 d hd]
            · rw [if_neg e0]
              unfold mixR
              congr 1
              apply propext
              constructor
              · rintro ⟨i, p, h1, h2, h3⟩
                exact ⟨i, p, h1, h2, by rw [hget]; split; rfl; exact h3⟩
              · rintro ⟨i, p, h1, h2, h3⟩
                rw [hget] at h3
                by_cases e : i = j
                · subst e; rw [ho] at h1; injection h1 with h1; subst h1; rw [hd] at h2; injection h2 with h2; exact absurd h2.symm e0
                · rw [if_neg e] at h3; exact ⟨i, p, h1, h2, h3⟩
        have hmix : mixT (fun i => (L.setIfInBounds j true).getD i false) 0 us s.O = updO (mixT (fun i => L.getD i false) 0 us s.O) u := by
          refine mixT_insert us 0 j u s.O k2 (by rw [Nat.zero_add]; exact hljf) (by rw [Nat.zero_add, hget]; simp) (fun x hx => by rw [hget, if_neg (by omega)]) (fun x u' hx hu' hl i hi hi' => ?_)
          rw [Nat.zero_add] at hl
          rw [after x u' i hx hu' hi' (by simp [hi])] at hl; cases hl
        have hc2 := count_set (L := L) (i := j) (by omega) hlj
        refine ih (L.setIfInBounds j true) κ' φ' w' a' (by simpa using hL) (by omega) (fun i o' ho' hi e' he' hb' => ?_) ?_ (hR.trans g2) ?_
        · rw [hget] at hi ⊢
          by_cases ej : e'.on = j
          · rw [if_pos ej]
          · rw [if_neg ej]
            by_cases ei : i = j
            · subst ei; rw [ho] at ho'; injection ho' with ho'; subst ho'; exact hedges e' he' hb'
            · rw [if_neg ei] at hi; exact hcl i o' ho' hi e' he' hb'
        · rw [← hset, hmix]; exact g1
        · rw [hmix]; exact hK.trans (g3.m m)
  have e0 : ∀ i, (Array.replicate ops.size false).getD i false = false := fun i => by
    by_cases hi : i < ops.size <;> simp [Array.getD, hi]
  have m0 : mixT (fun i => (Array.replicate ops.size false).getD i false) 0 us s.O = s.O := mixT_none us 0 s.O (fun j _ => e0 _)
  have r0 : mixR ops s.R (regOf t') (Array.replicate ops.size false) = s.R := by
    funext d
    unfold mixR
    rw [if_neg]
    rintro ⟨i, o, _, _, h3⟩
    rw [e0] at h3; cases h3
  refine main ops.size (Array.replicate ops.size false) κ φ w a (by simp) (by simp [List.countP_replicate]) (fun j o _ hj => by rw [e0] at hj; cases hj) ?_ (Fr.refl _ _) ?_
  · rw [m0, r0]; exact F0
  · rw [m0]; exact KpM.refl _ _ _

end Go.Am

/-
  The abstract machine: the driver of straight code; states of which less is said; contracts out of runs.
-/
namespace Go.Am
variable {P : Program}

def findZ (ob : T PObj) (ops : Array Oper) (n step : Nat) : Nat → Nat → Nat
  | 0, z => z
  | f + 1, z => bif ops.toList.all fun o => free8 ob (slotE n z o) then z else findZ ob ops n step f (z + step)

def stepRegion (cf : Cfg) (ov : Ov) (ops : Array Oper) (draw : Bool) (ac : Acc) : Option Acc :=
  bif guardsOk ac.st.n ops then
    bif draw then
      bif quietOk ops then
        match runQ cf ops ov ac.st.objs.get ops.toList ac.st.regs [] [] with
        | some (t, cs, es) => some { st := { ac.st with regs := t }, cs := ac.cs ++ cs, es := ac.es ++ es }
        | none => match runE cf ops ov ac.st.n (findZ ac.st.objs ops ac.st.n (8 * (ac.st.n + 1)) 400 64) ops.toList ac.st.regs ac.st.objs [] [] [] with
          | some (t, ob, cs, es, rs) => bif rowsOk rs (ancs ops.toList []) then some { st := { ac.st with regs := t, objs := ob }, cs := ac.cs ++ cs, es := ac.es ++ es } else none
          | none => none
      else none
    else runOps cf ops ov ops.toList ac
  else none

/-- Runs until the end, or until a loop's head; so many heads are gone past. -/
def drive (cf : Cfg) (ov : Ov) : Nat → Nat → List It → Acc → Option (List It × Acc)
  | 0, _, _, _ => none
  | n + 1, l, k, ac =>
    match k with
    | [] => some ([], ac)
    | .blk _ :: k => drive cf ov n l k ac
    | .scp _ :: k => drive cf ov n l k ac
    | .lp b :: k => match l with
      | 0 => some (.code b :: .lp b :: k, ac)
      | l + 1 => drive cf ov n l (.code b :: .lp b :: k) ac
    | .code c :: k => match c with
      | .skip => drive cf ov n l k ac
      | .seq x y => drive cf ov n l (.code x :: .code y :: k) ac
      | .region _ ops draw => match stepRegion cf ov ops draw ac with
        | some ac' => drive cf ov n l k ac'
        | none => none
      | .cond c x y => match rvOf (regOf ac.st.regs) c with
        | .d (.bool t) => match t with
          | true => drive cf ov n l (.code x :: k) ac
          | false => drive cf ov n l (.code y :: k) ac
        | _ => none
      | .block id b => drive cf ov n l (.code b :: .blk id :: k) ac
      | .loop b => match l with
        | 0 => some (.code b :: .lp b :: k, ac)
        | l + 1 => drive cf ov n l (.code b :: .lp b :: k) ac
      | .exit id => match exitT id k with
        | some k' => drive cf ov n l k' ac
        | none => none
      | .ret => some ([], ac)
      | .label _ => drive cf ov n l k ac
      | .scope b => drive cf ov n l (.code b :: .scp b :: k) ac
      | _ => none

theorem stepRegion_cs {cf : Cfg} {ov : Ov} {ops : Array Oper} {draw : Bool} {ac ac' : Acc} (h : stepRegion cf ov ops draw ac = some ac') :
    (∀ c ∈ ac.cs, c ∈ ac'.cs) ∧ (∀ e ∈ ac.es, e ∈ ac'.es) ∧ ac'.st.m = ac.st.m ∧ ac'.st.n = ac.st.n := by
  unfold stepRegion at h
  cases hg : guardsOk ac.st.n ops with
  | false => rw [hg] at h; simp at h
  | true =>
    rw [hg] at h; simp only [cond_true] at h
    cases draw with
    | false => simp only [cond_false] at h; exact runOps_cs _ h
    | true =>
      simp only [cond_true] at h
      cases hq : quietOk ops with
      | false => rw [hq] at h; simp at h
      | true =>
        rw [hq] at h; simp only [cond_true] at h
        split at h
        · injection h with h; subst h
          exact ⟨fun c hc => by simp [hc], fun e he => by simp [he], rfl, rfl⟩
        · split at h
          · rename_i t ob cs es rs hr
            cases hw : rowsOk rs (ancs ops.toList []) with
            | false => rw [hw] at h; simp at h
            | true =>
              rw [hw] at h; simp only [cond_true] at h
              injection h with h; subst h
              exact ⟨fun c hc => by simp [hc], fun e he => by simp [he], rfl, rfl⟩
          · simp at h

theorem stepRegion_wk {cf : Cfg} (hcf : CfOk P cf) (hmix : P.follows .mixedOrders = true) {ov : Ov} {ops : Array Oper} {draw : Bool} {ac ac' : Acc} (h : stepRegion cf ov ops draw ac = some ac')
    (hc : ∀ c ∈ ac'.cs, c = true) (he : ∀ e ∈ ac'.es, RVle e.1 e.2) {id : Nat} {k : List It} {m : Nat} {Q : SSt → Prop} (hk : WK P m k ac'.st.den Q) : WK P m (.code (.region id ops draw) :: k) ac.st.den Q := by
  unfold stepRegion at h
  cases hg : guardsOk ac.st.n ops with
  | false => rw [hg] at h; simp at h
  | true =>
    rw [hg] at h; simp only [cond_true] at h
    cases draw with
    | false =>
      simp only [cond_false] at h
      refine WK.region (s' := ac'.st.den) (fun κ φ w a F => ?_) hk
      have := runOps_wp (Q := fun e a' w' => e = .normal ∧ ∃ κ' φ', FRel κ' φ' w' ac'.st.den a' ∧ Fr κ w κ' w' ∧ KpM m φ ac.st.den.O φ' ac'.st.den.O) hcf ops.toList 0 F h hc he hg (fun i o hi => by simpa using hi)
        (fun a' w' κ' φ' g1 g2 g3 => ⟨rfl, κ', φ', g1, g2, g3.m m⟩)
      rw [List.range_eq_range']
      simpa using this
    | true =>
      simp only [cond_true] at h
      cases hq : quietOk ops with
      | false => rw [hq] at h; simp at h
      | true =>
        rw [hq] at h; simp only [cond_true] at h
        cases hr : runQ cf ops ov ac.st.objs.get ops.toList ac.st.regs [] [] with
        | none =>
          rw [hr] at h; simp only at h
          split at h
          · rename_i t ob cs es rs hr2
            cases hw : rowsOk rs (ancs ops.toList []) with
            | false => rw [hw] at h; simp at h
            | true =>
              rw [hw] at h; simp only [cond_true] at h
              injection h with h; subst h
              refine WK.regionD (s' := { ac.st.den with R := regOf t, O := ob.get }) hmix (fun κ φ w a F => ?_) hk
              exact eff_any (s := ac.st.den) (t := ac.st.regs) (ob := ac.st.objs) hcf hq hg rfl rfl hr2 hw (fun c hcc => hc c (by simp [hcc])) (fun e hee => he e (by simp [hee])) F
          · simp at h
        | some p =>
          obtain ⟨t, cs, es⟩ := p
          rw [hr] at h; simp only [Option.some.injEq] at h; subst h
          refine WK.regionD (s' := { ac.st.den with R := regOf t }) hmix (fun κ φ w a F => ?_) hk
          have key := quiet_any (κ0 := κ) (w0 := w) (φ0 := φ) (m := m) hcf (s := ac.st.den) (t := ac.st.regs) hq hg rfl hr (fun c hcc => hc c (by simp [hcc])) (fun e hee => he e (by simp [hee]))
          refine key ops.size (Array.replicate ops.size false) κ φ w a (by simp) (by simp [List.countP_replicate]) (fun j o hj hl => by
            exfalso
            by_cases hi : j < ops.size <;> simp [Array.getD, hi] at hl) ?_ (Fr.refl _ _) (KpM.refl _ _ _)
          have : mixR ops ac.st.den.R (regOf t) (Array.replicate ops.size false) = ac.st.den.R := by
            funext d
            unfold mixR
            rw [if_neg]
            rintro ⟨i, o, _, _, h3⟩
            by_cases hi : i < ops.size <;> simp [Array.getD, hi] at h3
          rw [this]; exact F

theorem drive_cs {cf : Cfg} {ov : Ov} : ∀ (n l : Nat) (k k' : List It) (ac ac' : Acc), drive cf ov n l k ac = some (k', ac') → (∀ c ∈ ac.cs, c ∈ ac'.cs) ∧ (∀ e ∈ ac.es, e ∈ ac'.es)
  | 0, _, _, _, _, _, h => by simp [drive] at h
  | n + 1, l, k, k', ac, ac', h => by
    have base : ∀ {k k' : List It} {a a' : Acc}, some (k, a) = some (k', a') → (∀ c ∈ a.cs, c ∈ a'.cs) ∧ (∀ e ∈ a.es, e ∈ a'.es) := by
      intro k k' a a' h
      injection h with h; injection h with h1 h2; subst h2
      exact ⟨fun _ h => h, fun _ h => h⟩
    unfold drive at h
    split at h
    · exact base h
    · exact drive_cs n l _ _ _ _ h
    · exact drive_cs n l _ _ _ _ h
    · split at h
      · exact base h
      · exact drive_cs n _ _ _ _ _ h
    · split at h
      · exact drive_cs n l _ _ _ _ h
      · exact drive_cs n l _ _ _ _ h
      · split at h
        · rename_i a1 hs
          obtain ⟨p1, p2, _⟩ := stepRegion_cs hs
          obtain ⟨q1, q2⟩ := drive_cs n l _ _ _ _ h
          exact ⟨fun c hc => q1 c (p1 c hc), fun e he => q2 e (p2 e he)⟩
        · simp at h
      · split at h
        · split at h <;> exact drive_cs n l _ _ _ _ h
        · simp at h
      · exact drive_cs n l _ _ _ _ h
      · split at h
        · exact base h
        · exact drive_cs n _ _ _ _ _ h
      · split at h
        · exact drive_cs n l _ _ _ _ h
        · simp at h
      · exact base h
      · exact drive_cs n l _ _ _ _ h
      · exact drive_cs n l _ _ _ _ h
      · simp at h

theorem drive_wk {cf : Cfg} (hcf : CfOk P cf) (hmix : P.follows .mixedOrders = true) {ov : Ov} {m : Nat} {Q : SSt → Prop} : ∀ (n l : Nat) (k k' : List It) (ac ac' : Acc), drive cf ov n l k ac = some (k', ac') →
    (∀ c ∈ ac'.cs, c = true) → (∀ e ∈ ac'.es, RVle e.1 e.2) → (k' = [] → Q ac'.st.den) → (k' ≠ [] → WK P m k' ac'.st.den Q) → WK P m k ac.st.den Q
  | 0, _, _, _, _, _, h, _, _, _, _ => by simp [drive] at h
  | n + 1, l, k, k', ac, ac', h, hc, he, h1, h2 => by
    unfold drive at h
    split at h
    · injection h with h; injection h with e1 e2; subst e1; subst e2
      exact WK.done (h1 rfl)
    · exact WK.blk (drive_wk hcf hmix n l _ _ _ _ h hc he h1 h2)
    · exact WK.scp (drive_wk hcf hmix n l _ _ _ _ h hc he h1 h2)
    · split at h
      · injection h with h; injection h with e1 e2; subst e1; subst e2
        exact WK.again (h2 (by simp))
      · exact WK.again (drive_wk hcf hmix n _ _ _ _ _ h hc he h1 h2)
    · split at h
      · exact WK.skip (drive_wk hcf hmix n l _ _ _ _ h hc he h1 h2)
      · exact WK.seq (drive_wk hcf hmix n l _ _ _ _ h hc he h1 h2)
      · split at h
        · rename_i a1 hs
          obtain ⟨q1, q2⟩ := drive_cs n l _ _ _ _ h
          exact stepRegion_wk hcf hmix hs (fun c hcc => hc c (q1 c hcc)) (fun e hee => he e (q2 e hee)) (drive_wk hcf hmix n l _ _ _ _ h hc he h1 h2)
        · simp at h
      · split at h
        · rename_i t hcond
          cases t with
          | true => exact WK.cond (t := true) hcond (drive_wk hcf hmix n l _ _ _ _ h hc he h1 h2)
          | false => exact WK.cond (t := false) hcond (drive_wk hcf hmix n l _ _ _ _ h hc he h1 h2)
        · simp at h
      · exact WK.block (drive_wk hcf hmix n l _ _ _ _ h hc he h1 h2)
      · split at h
        · injection h with h; injection h with e1 e2; subst e1; subst e2
          exact WK.enter (h2 (by simp))
        · exact WK.enter (drive_wk hcf hmix n _ _ _ _ _ h hc he h1 h2)
      · split at h
        · rename_i k1 hex
          exact WK.exit hex (drive_wk hcf hmix n l _ _ _ _ h hc he h1 h2)
        · simp at h
      · injection h with h; injection h with e1 e2; subst e1; subst e2
        exact WK.ret (h1 rfl)
      · exact WK.label (drive_wk hcf hmix n l _ _ _ _ h hc he h1 h2)
      · exact WK.scope (drive_wk hcf hmix n l _ _ _ _ h hc he h1 h2)
      · simp at h

/-- A nil slice (or one without room) as an array of one's own, that is empty. -/
theorem FRel.nilOwn {κ : Kap} {φ : Phi} {w : World} {s : SSt} {a : Act} (F : FRel κ φ w s a) {t sl ty sz sz' : Nat} (ht : s.R t = .d (.lst sz' [] true)) (hs : s.O sl = none) :
    FRel κ (setP φ sl .nil) w { s with R := setR s.R t (.own sl sz), O := setT s.O sl (some (.arr ty sz [])) } a ∧ Kp φ s.O (setP φ sl .nil) (setT s.O sl (some (.arr ty sz []))) := by
  have hun : φ sl = .un := by have := F.objs sl; rw [hs] at this; exact this
  obtain ⟨q1, q2, _⟩ := F.upd1 (i := sl) (p := .arr ty sz []) (κ' := κ) (φ' := setP φ sl .nil) (w' := w) (Nat.le_refl _) (fun _ h => h) (fun _ _ _ _ h => h) (fun _ _ h => h) (fun _ _ _ _ => rfl)
    (fun j hj => setP_ne _ _ hj) (fun h => absurd hun h) (fun _ c _ fz hc => ⟨c, fz, hc, rfl⟩) (fun h => absurd hun h) F.bnd (fun M => .inl ⟨setP_same _ _ _, rfl⟩)
  refine ⟨⟨fun x => ?_, q1.objs, q1.bnd, q1.n, q1.df⟩, q2.kp⟩
  by_cases e : x = t
  · subst e
    simp only [setR, if_true]
    have r := F.regs x
    rw [ht] at r
    generalize a.tmps.getD x undef = v at r
    cases r with
    | d hr =>
      cases hr with
      | lst0 hf => have := (hf rfl).1; subst this; exact .ownNil (setP_same _ _ _)
      | lst _ _ hf hc _ _ _ => have := (hf rfl).1; simp only [List.length_nil] at this; subst this; exact .ownNil (setP_same _ _ _)
  · simp only [setR, if_neg e]; exact q1.regs x

def renOf (olds nws : List Nat) (i : Nat) : Option Nat :=
  match idx i olds 0 with
  | some k => nws[k]?
  | none => none

theorem renOf_spec {olds nws : List Nat} {i j : Nat} (h : renOf olds nws i = some j) : ∃ k : Nat, olds[k]? = some i ∧ nws[k]? = some j := by
  unfold renOf at h
  cases e : idx i olds 0 with
  | none => rw [e] at h; simp at h
  | some k => rw [e] at h; exact ⟨k, by have := (idx_spec i olds 0 k e).2; simpa using this, h⟩

theorem renOf_of {olds nws : List Nat} (hn : nodupB olds = true) {i j k : Nat} (h1 : olds[k]? = some i) (h2 : nws[k]? = some j) : renOf olds nws i = some j := by
  unfold renOf
  obtain ⟨k', hk'⟩ := idx_mem i olds 0 (List.mem_iff_getElem?.2 ⟨k, h1⟩)
  have := (idx_spec i olds 0 k' hk').2
  simp only [Nat.sub_zero] at this
  rw [hk', nodupB_spec olds hn k' k i this h1]; exact h2

theorem ren_len {ρ : Nat → Option Nat} {p q : PObj} (h : p.ren ρ = some q) : PObj.len? (some q) = PObj.len? (some p) := by
  cases p <;> simp only [PObj.ren] at h <;> try (injection h with h; subst h; rfl)
  split at h
  · injection h with h; subst h; rfl
  · simp at h

/-- Only some registers and objects are kept, the objects under other numbers. -/
theorem FRel.keep {κ : Kap} {φ : Phi} {w : World} {s s' : SSt} {a : Act} (F : FRel κ φ w s a) {olds nws : List Nat} (hl : nws.length = olds.length) (h1 : nodupB olds = true) (h2 : nodupB nws = true)
    (hn : s'.n = s.n) (hR : ∀ t, s'.R t = .bot ∨ RV.ren (renOf olds nws) 6 (s.R t) = some (s'.R t))
    (hO : ∀ (k i j : Nat), olds[k]? = some i → nws[k]? = some j → ∃ p q, s.O i = some p ∧ p.ren (renOf olds nws) = some q ∧ s'.O j = some q) (hO' : ∀ j, j ∉ nws → s'.O j = none) :
    ∃ κ' φ', FRel κ' φ' w s' a ∧ Fr κ w κ' w ∧ ∀ (m : Nat), (∀ i, i < m → renOf olds nws i = some i) → KpM m φ s.O φ' s'.O := by
  let κ' : Kap := fun b => match κ b with
    | .imm => .imm
    | .own i => match renOf olds nws i with | some j => .own j | none => .oth
    | .oth => .oth
  let φ' : Phi := fun j => match renOf nws olds j with | some i => φ i | none => .un
  have inv : ∀ i j, renOf olds nws i = some j → renOf nws olds j = some i := fun i j h => by
    obtain ⟨k, e1, e2⟩ := renOf_spec h
    exact renOf_of h2 e2 e1
  have himm : ∀ b, κ b = .imm → κ' b = .imm := fun b hb => by simp only [κ', hb]
  have hφ : ∀ i j, renOf olds nws i = some j → φ i ≠ .un → φ' j = φ i := fun i j h _ => by simp only [φ', inv i j h]
  have hlen : ∀ i j n, renOf olds nws i = some j → φ i ≠ .un → PObj.len? (s'.O j) = some n → PObj.len? (s.O i) = some n := by
    intro i j n h _ hn
    obtain ⟨k, e1, e2⟩ := renOf_spec h
    obtain ⟨p, q, g1, g2, g3⟩ := hO k i j e1 e2
    rw [g1, ← ren_len g2, ← g3]; exact hn
  refine ⟨κ', φ', ⟨fun t => ?_, fun j => ?_, fun b hb => F.bnd b (fun e => by simp only [κ', e] at hb; exact hb rfl), by rw [hn]; exact F.n, F.df⟩,
    ⟨Nat.le_refl _, fun b hb => ⟨himm b hb, rfl⟩, fun b _ hb => ⟨by simp only [κ', hb], rfl⟩, fun _ c _ fz hc => ⟨c, fz, hc, rfl⟩, rfl, rfl⟩, fun m hm => ⟨fun i hi hu => hφ i i (hm i hi) hu, fun i n hi hu hn => hlen i i n (hm i hi) hu hn⟩⟩
  · rcases hR t with e | e
    · rw [e]; exact .bot _
    · exact RVR.ren himm hφ hlen 6 _ _ _ e (F.regs t)
  · by_cases hj : j ∈ nws
    · obtain ⟨k, hk⟩ := List.mem_iff_getElem?.1 hj
      have hlt := (List.getElem?_eq_some_iff.1 hk).1
      have hlt2 : k < olds.length := by omega
      have hi : olds[k]? = some olds[k] := by simp [hlt2]
      obtain ⟨p, q, g1, g2, g3⟩ := hO k _ j hi hk
      rw [g3]
      have ho := F.objs olds[k]
      rw [g1] at ho
      exact OR.ren himm hφ hlen (renOf_of h1 hi hk) (fun b hb => by simp only [κ', hb, renOf_of h1 hi hk]) g2 ho
    · rw [hO' j hj]
      show φ' j = .un
      simp only [φ']
      cases e : renOf nws olds j with
      | none => rfl
      | some i =>
        obtain ⟨k, e1, _⟩ := renOf_spec e
        exact absurd (List.mem_iff_getElem?.2 ⟨k, e1⟩) hj

/-- What is kept of a state. -/
structure Post where
  nils : List (Nat × Nat × Nat × Nat) := []
  live : List Nat
  olds : List Nat := []
  nws : List Nat := []

def doNils : List (Nat × Nat × Nat × Nat) → ESt → Option ESt
  | [], st => some st
  | (t, sl, ty, sz) :: r, st => match regOf st.regs t, st.objs.get sl with
    | .d (.lst _ [] true), none => bif Nat.ble t 8000 && Nat.ble sl 65000 then doNils r { st with regs := st.regs.set t (some (.own sl sz)), objs := st.objs.set sl (some (.arr ty sz [])) } else none
    | _, _ => none

def zipT {α : Type} : List Nat → List α → List (Nat × α)
  | i :: r, x :: q => (i, x) :: zipT r q
  | _, _ => []

def doKeep (p : Post) (st : ESt) : Option ESt :=
  let olds := List.range st.m ++ p.olds
  let nws := List.range st.m ++ p.nws
  bif Nat.beq nws.length olds.length && nodupB olds && nodupB nws && nodupB p.live && (p.live.all fun t => Nat.ble t 8000) && (nws.all fun t => Nat.ble t 65000) then
    match mapO (fun t => RV.ren (renOf olds nws) 6 (regOf st.regs t)) p.live, mapO (fun i => match st.objs.get i with | some q => q.ren (renOf olds nws) | none => none) olds with
    | some rs, some os => some { st with regs := T.mk (zipT p.live rs), objs := T.mk (zipT nws os) }
    | _, _ => none
  else none

def doPost (p : Post) (st : ESt) : Option ESt :=
  match doNils p.nils st with
  | some st' => doKeep p st'
  | none => none

theorem mk_get {α : Type} : ∀ (l : List Nat) (v : List α), v.length = l.length → nodupB l = true → (l.all fun t => Nat.ble t 65000) = true →
    (∀ (k i : Nat), l[k]? = some i → (T.mk (zipT l v)).get i = v[k]?) ∧ (∀ i, i ∉ l → (T.mk (zipT l v)).get i = none)
  | [], v, hl, _, _ => by
    have : v = [] := List.eq_nil_of_length_eq_zero (by simpa using hl)
    subst this
    exact ⟨by simp, fun i _ => rfl⟩
  | i0 :: l, [], hl, _, _ => by simp at hl
  | i0 :: l, x :: v, hl, hn, hb => by
    simp only [nodupB, Bool.and_eq_true, Bool.not_eq_true'] at hn
    simp only [List.all_cons, Bool.and_eq_true] at hb
    obtain ⟨h1, h2⟩ := mk_get l v (by simpa using hl) hn.2 hb.2
    have hlt := Nat.le_of_ble_eq_true hb.1
    have hni : i0 ∉ l := fun hm => by
      have := List.any_eq_false.1 hn.1 i0 hm
      rw [nbT rfl] at this; simp at this
    refine ⟨fun k i hk => ?_, fun i hi => ?_⟩
    · cases k with
      | zero => simp at hk; subst hk; simp only [zipT, T.mk]; rw [T.get_set_same _ (by omega)]; rfl
      | succ k =>
        simp only [List.getElem?_cons_succ] at hk
        have hne : i ≠ i0 := fun e => by subst e; exact hni (List.mem_iff_getElem?.2 ⟨k, hk⟩)
        simp only [zipT, T.mk]; rw [T.get_set_ne _ hne, h1 k i hk]; rfl
    · simp only [List.mem_cons, not_or] at hi
      simp only [zipT, T.mk]; rw [T.get_set_ne _ hi.1, h2 i hi.2]

theorem doNils_ok : ∀ (l : List (Nat × Nat × Nat × Nat)) {st st' : ESt}, doNils l st = some st' → (∀ κ φ w a, FRel κ φ w st.den a → ∃ φ', FRel κ φ' w st'.den a ∧ Kp φ st.den.O φ' st'.den.O) ∧ st'.m = st.m ∧ st'.n = st.n
  | [], st, st', h => by simp [doNils] at h; subst h; exact ⟨fun κ φ w a F => ⟨φ, F, Kp.refl _ _⟩, rfl, rfl⟩
  | (t, sl, ty, sz) :: r, st, st', h => by
    simp only [doNils] at h
    split at h
    · rename_i sz' hr ho
      cases hb : (Nat.ble t 8000 && Nat.ble sl 65000) with
      | false => rw [hb] at h; simp at h
      | true =>
        rw [hb] at h; simp only [cond_true] at h
        simp only [Bool.and_eq_true] at hb
        have b1 := Nat.le_of_ble_eq_true hb.1
        have b2 := Nat.le_of_ble_eq_true hb.2
        obtain ⟨h1, h2, h3⟩ := doNils_ok r h
        refine ⟨fun κ φ w a F => ?_, h2, h3⟩
        obtain ⟨g1, g2⟩ := FRel.nilOwn (s := st.den) F (t := t) (sl := sl) (ty := ty) (sz := sz) hr ho
        have e : ({ st with regs := st.regs.set t (some (.own sl sz)), objs := st.objs.set sl (some (.arr ty sz [])) } : ESt).den = { st.den with R := setR st.den.R t (.own sl sz), O := setT st.den.O sl (some (.arr ty sz [])) } := by
          simp only [ESt.den]
          rw [regOf_set (by omega)]
          congr 1
          funext j
          by_cases e : j = sl
          · subst e; rw [T.get_set_same _ (by omega), setT_same]
          · rw [T.get_set_ne _ e, setT_ne _ _ e]
        rw [← e] at g1
        obtain ⟨φ', g3, g4⟩ := h1 κ _ w a g1
        rw [e] at g4
        exact ⟨φ', g3, g2.trans g4⟩
    · simp at h

theorem doPost_wk {p : Post} {st st' : ESt} (h : doPost p st = some st') {k : List It} {Q : SSt → Prop} (hk : WK P st.m k st'.den Q) : WK P st.m k st.den Q := by
  unfold doPost at h
  cases h1 : doNils p.nils st with
  | none => rw [h1] at h; simp at h
  | some s1 =>
    rw [h1] at h; simp only at h
    obtain ⟨n1, n2, n3⟩ := doNils_ok _ h1
    unfold doKeep at h
    simp only at h
    generalize ho : List.range s1.m ++ p.olds = olds at h
    generalize hw : List.range s1.m ++ p.nws = nws at h
    cases hg : (Nat.beq nws.length olds.length && nodupB olds && nodupB nws && nodupB p.live && (p.live.all fun t => Nat.ble t 8000) && (nws.all fun t => Nat.ble t 65000)) with
    | false => rw [hg] at h; simp at h
    | true =>
      rw [hg] at h; simp only [cond_true] at h
      simp only [Bool.and_eq_true] at hg
      obtain ⟨⟨⟨⟨⟨g1, g2⟩, g3⟩, g4⟩, g5⟩, g6⟩ := hg
      have g1 := nbE g1
      cases hr : mapO (fun t => RV.ren (renOf olds nws) 6 (regOf s1.regs t)) p.live with
      | none => rw [hr] at h; simp at h
      | some rs =>
        cases hos : mapO (fun i => match s1.objs.get i with | some q => q.ren (renOf olds nws) | none => none) olds with
        | none => rw [hr, hos] at h; simp at h
        | some os =>
          rw [hr, hos] at h; simp only [Option.some.injEq] at h; subst h
          obtain ⟨r1, r2⟩ := mapO_spec _ _ _ hr
          obtain ⟨o1, o2⟩ := mapO_spec _ _ _ hos
          have g5' : (p.live.all fun t => Nat.ble t 65000) = true := by
            rw [List.all_eq_true] at g5 ⊢
            intro t ht
            have := Nat.le_of_ble_eq_true (g5 t ht)
            exact Nat.ble_eq_true_of_le (by omega)
          obtain ⟨q1, q2⟩ := mk_get p.live rs r1 g4 g5'
          obtain ⟨q3, q4⟩ := mk_get nws os (by omega) g3 g6
          refine hk.state fun κ φ w a F => ?_
          obtain ⟨φ1, F1, K1⟩ := n1 κ φ w a F
          obtain ⟨κ2, φ2, F2, R2, K2⟩ := F1.keep (s' := ({ s1 with regs := T.mk (zipT p.live rs), objs := T.mk (zipT nws os) } : ESt).den) g1 g2 g3 rfl (fun t => by
            by_cases ht : t ∈ p.live
            · right
              obtain ⟨k, hk⟩ := List.mem_iff_getElem?.1 ht
              have hlt := (List.getElem?_eq_some_iff.1 hk).1
              have hlt2 : k < rs.length := by omega
              have hrs : rs[k]? = some rs[k] := by simp [hlt2]
              have e : regOf (T.mk (zipT p.live rs)) t = rs[k] := by unfold regOf; rw [q1 k t hk, hrs]
              show RV.ren (renOf olds nws) 6 (regOf s1.regs t) = some (regOf (T.mk (zipT p.live rs)) t)
              rw [e]; exact r2 k t _ hk hrs
            · left
              show regOf (T.mk (zipT p.live rs)) t = .bot
              unfold regOf; rw [q2 t ht]) (fun k i j hi hj => by
            have hlt := (List.getElem?_eq_some_iff.1 hi).1
            have hlt2 : k < os.length := by omega
            have hq : os[k]? = some os[k] := by simp [hlt2]
            have := o2 k i _ hi hq
            cases e : s1.objs.get i with
            | none => simp only [e] at this; cases this
            | some pp => simp only [e] at this; exact ⟨pp, _, e, this, by show (T.mk (zipT nws os)).get j = _; rw [q3 k j hj, hq]⟩) (fun j hj => q4 j hj)
          refine ⟨κ2, φ2, F2, R2, (K1.m st.m).trans (K2 st.m fun i hi => ?_)⟩
          have hi' : i < s1.m := by omega
          refine renOf_of (k := i) g2 ?_ ?_
          · rw [← ho, List.getElem?_append_left (by simpa using hi')]; simp [hi']
          · rw [← hw, List.getElem?_append_left (by simpa using hi')]; simp [hi']

end Go.Am

/-
  The abstract machine: a function's contract out of a run of its body.
-/
namespace Go.Am
variable {P : Program}

def resVal (E : Env) (R : Nat → RV) (O : Tab) : ResultVar → Option RV
  | .tmp t => some (R t)
  | .cell a ty => match exLoad E O ty (R a) with
    | some res => bif res.upd.isEmpty && res.conds.isEmpty then some res.val else none
    | none => none

def one (vs : List RV) : RV :=
  match vs with
  | [v] => v
  | _ => .tup vs

/-- What a function gives, and its objects, numbered from the caller's on. 'frz': its arrays are given as data. -/
def finish (E : Env) (frz : Bool) (m : Nat) (rs : List ResultVar) (R : Nat → RV) (O : Tab) : Option (RV × List PObj × List Bool) :=
  match mapO (resVal E R O) rs with
  | none => none
  | some vs => match (bif frz then prepAll O vs else some (vs, [], [])) with
    | none => none
    | some (vs1, u, c) =>
      let r := one vs1
      let ps := List.range m ++ (reach (updO O u) 64 (r.refs 6 ++ (List.range m).flatMap fun i => objRefs (updO O u i)) []).filter (fun i => Nat.ble m i)
      bif nodupB ps then
        match r.ren (fun i => idx i ps 0) 6, mapO (fun i => match updO O u i with | some p => p.ren (fun i => idx i ps 0) | none => none) ps with
        | some r', some os => some (r', os, c)
        | _, _ => none
      else none

theorem resVal_ok {κ : Kap} {φ : Phi} {w : World} {s : SSt} {a : Act} (F : FRel κ φ w s a) {x : ResultVar} {v : RV} (h : resVal (Env.of P) s.R s.O x = some v) :
    ∃ u, ((match x with
      | .tmp t => pure (a.tmps.getD t undef)
      | .cell b t => do loadVar t (← asAddr (a.tmps.getD b undef))) : Sem Value).run P w = .ok u w ∧ RVR κ φ s.O w.heap v u := by
  cases x with
  | tmp t => simp [resVal] at h; subst h; exact ⟨_, rfl, F.regs t⟩
  | cell b t =>
    simp only [resVal] at h
    cases hx : exLoad (Env.of P) s.O t (s.R b) with
    | none => rw [hx] at h; simp at h
    | some res =>
      rw [hx] at h; simp only at h
      cases hg : (res.upd.isEmpty && res.conds.isEmpty) with
      | false => rw [hg] at h; simp at h
      | true =>
        rw [hg] at h; simp only [cond_true, Option.some.injEq] at h; subst h
        simp only [Bool.and_eq_true, List.isEmpty_iff] at hg
        obtain ⟨_, u, h1, h2⟩ := load_okP F hx (by rw [hg.2]; simp) (F.regs b)
        refine ⟨u, ?_, h2⟩
        have hp : ∃ ad, a.tmps.getD b undef = .pointer (some ad) := by
          have r := F.regs b
          unfold exLoad at hx
          cases hz : (Env.of P).size t with
          | none => rw [hz] at hx; simp at hx
          | some z =>
            rw [hz] at hx
            generalize a.tmps.getD b undef = v at r
            cases hR : s.R b <;> rw [hR] at hx r <;> (try simp only at hx) <;> (try (simp at hx; done)) <;> (cases r; exact ⟨_, rfl⟩)
        obtain ⟨ad, hp⟩ := hp
        show (do loadVar t (← asAddr (a.tmps.getD b undef)) : Sem Value).run P w = .ok u w
        rw [hp] at h1 ⊢
        simpa [Instr.loadAt, Instr.sureAddr, asAddr] using h1

def resG (tmps : Array Value) (x : ResultVar) : Sem Value :=
  match x with
  | .tmp t => pure (tmps.getD t undef)
  | .cell a t => do loadVar t (← asAddr (tmps.getD a undef))

theorem results_ok {κ : Kap} {φ : Phi} {w : World} {s : SSt} {a : Act} (F : FRel κ φ w s a) (g : ResultVar → Sem Value) (hg1 : ∀ t, g (.tmp t) = pure (a.tmps.getD t undef))
    (hg2 : ∀ b t, g (.cell b t) = (do loadVar t (← asAddr (a.tmps.getD b undef)))) : ∀ (rs : List ResultVar) (vs : List RV), mapO (resVal (Env.of P) s.R s.O) rs = some vs →
    ∃ us : List Value, (rs.mapM g).run P w = .ok us w ∧ us.length = vs.length ∧ ∀ (i : Nat) (x : RV) (v : Value), vs[i]? = some x → us[i]? = some v → RVR κ φ s.O w.heap x v
  | [], vs, h => by simp [mapO] at h; subst h; exact ⟨[], rfl, rfl, by simp⟩
  | x :: rs, vs, h => by
    simp only [mapO] at h
    cases h1 : resVal (Env.of P) s.R s.O x with
    | none => rw [h1] at h; simp at h
    | some v =>
      cases h2 : mapO (resVal (Env.of P) s.R s.O) rs with
      | none => rw [h1, h2] at h; simp at h
      | some q =>
        rw [h1, h2] at h; simp at h; subst h
        obtain ⟨u, e1, e2⟩ := resVal_ok F h1
        have e1' : (g x).run P w = .ok u w := by
          cases x with
          | tmp t => rw [hg1]; exact e1
          | cell b t => rw [hg2]; exact e1
        obtain ⟨us, g1, g2, g3⟩ := results_ok F g hg1 hg2 rs q h2
        refine ⟨u :: us, ?_, by simp [g2], fun i y w' hy hw => ?_⟩
        · simp [List.mapM_cons, e1', g1]
        · cases i with
          | zero => simp at hy hw; subst hy; subst hw; exact e2
          | succ i => exact g3 i y w' (by simpa using hy) (by simpa using hw)

theorem one_ok {κ : Kap} {φ : Phi} {O : Tab} {h : Heap} {vs : List RV} {us : List Value} (hl : us.length = vs.length) (hr : ∀ (i : Nat) (x : RV) (v : Value), vs[i]? = some x → us[i]? = some v → RVR κ φ O h x v) :
    RVR κ φ O h (one vs) (if hh : us.toArray.size = 1 then us.toArray[0] else .tuple us.toArray) := by
  cases vs with
  | nil =>
    have : us = [] := List.eq_nil_of_length_eq_zero (by simpa using hl)
    subst this
    simp only [one]; exact .tup rfl (by simp)
  | cons v vs =>
    cases us with
    | nil => simp at hl
    | cons u us =>
      cases vs with
      | nil =>
        have : us = [] := List.eq_nil_of_length_eq_zero (by simpa using hl)
        subst this
        simp only [one]; exact hr 0 v u rfl rfl
      | cons v2 vs =>
        have hne : ¬ (u :: us).toArray.size = 1 := by simp at hl ⊢; intro e; subst e; simp at hl
        rw [dif_neg hne]
        show RVR κ φ O h (.tup (v :: v2 :: vs)) _
        exact .tup (by simpa using hl) (fun i x v hx hv => hr i x v hx (by simpa using hv))

theorem calls_of_body {f : FuncId} {fn : Func} {c : Code} {args : Array Value} {w : World} {R : Ending → World → Prop}
    (hf : P.funcs[f]? = some fn) (hb : fn.body = some c)
    (h : ∀ (b : Frame) (cs : List Frame), ∃ e a' w', (e = .normal ∨ e = .ret) ∧ (a'.defers = [] ∧ ∃ v, (results fn a'.tmps).run P w' = .ok v w' ∧ R (.returned v) w') ∧
      Arrives P (lone (b.at { tmps := args ++ Array.replicate (fn.ntmps - args.size) undef, defers := [] } [.code c]) cs w) b [] cs e a' w') : Calls P f args w R := by
  intro cs
  let b : Frame := { (default : Frame) with fn := f, kind := .normal }
  have henter : Frame.enter P f args .normal = b.at { tmps := args ++ Array.replicate (fn.ntmps - args.size) undef, defers := [] } [.code c] := by
    simp [Frame.enter, Frame.at, hf, hb, b]
  obtain ⟨e, a', w', he, ⟨hd, v, hr, hR⟩, harr⟩ := h b cs
  rw [← henter] at harr
  rcases he with rfl | rfl
  · exact ⟨.returned v, w', _, hR, Steps.trans harr (.one step_end), rfl, rfl, hd, rfl, fn, hf, hr⟩
  · obtain ⟨todo, hs⟩ := harr
    exact ⟨.returned v, w', _, hR, hs, rfl, rfl, hd, rfl, fn, hf, hr⟩

/-- A function's contract, out of a run of its body. -/
theorem C_of_WK {f : FuncId} {fn : Func} {body : Code} {args : List RV} {objs : List PObj} {frz : Bool} {Q : RV → List PObj → Prop} (hf : P.funcs[f]? = some fn) (hb : fn.body = some body) (hn : args.length ≤ fn.ntmps)
    (h : WK P objs.length [.code body] { n := fn.ntmps, R := fun t => (args[t]?).getD .bot, O := tabOf objs }
      (fun s => ∃ r objs' c, finish (Env.of P) frz objs.length fn.results.toList s.R s.O = some (r, objs', c) ∧ (∀ b ∈ c, b = true) ∧ Q r objs')) : C P f args objs Q := by
  intro κ φ w vs h1 h2 h3 h4
  refine calls_of_body hf hb ?_
  have F : FRel κ φ w { n := fn.ntmps, R := fun t => (args[t]?).getD .bot, O := tabOf objs } { tmps := vs ++ Array.replicate (fn.ntmps - vs.size) undef, defers := [] } := by
    refine ⟨fun t => ?_, h1, h2, by simp; omega, rfl⟩
    by_cases ht : t < args.length
    · have e1 : args[t]? = some args[t] := by simp [ht]
      have e2 : vs[t]? = some vs[t] := by simp [show t < vs.size by omega]
      have e3 : (vs ++ Array.replicate (fn.ntmps - vs.size) undef).getD t undef = vs[t] := by
        rw [Array.getD_eq_getD_getElem?, Array.getElem?_append_left (by omega), e2]; rfl
      simp only [e1, Option.getD_some, e3]
      exact h4 t _ _ e1 e2
    · have e1 : args[t]? = none := by simp; omega
      simp only [e1, Option.getD_none]; exact .bot _
  intro b cs
  obtain ⟨e, a', w', κ', φ', s', he, ⟨r, objs', c, hfin, hcs, hQ⟩, F', R', K', harr⟩ := h κ φ w _ F b cs
  refine ⟨e, a', w', he, ⟨F'.df, ?_⟩, harr⟩
  unfold finish at hfin
  cases hres : mapO (resVal (Env.of P) s'.R s'.O) fn.results.toList with
  | none => rw [hres] at hfin; simp at hfin
  | some vs0 =>
    rw [hres] at hfin; simp only at hfin
    have hrun : ∃ us : List Value, (results fn a'.tmps).run P w' = .ok (if hh : us.toArray.size = 1 then us.toArray[0] else .tuple us.toArray) w' ∧ us.length = vs0.length ∧
        ∀ (i : Nat) (x : RV) (v : Value), vs0[i]? = some x → us[i]? = some v → RVR κ' φ' s'.O w'.heap x v := by
      have hdef : results fn a'.tmps = (do
          let vs ← fn.results.mapM (resG a'.tmps)
          pure (if h : vs.size = 1 then vs[0] else .tuple vs)) := by
        unfold results resG
        rfl
      obtain ⟨us, u1, u2, u3⟩ := results_ok F' (resG a'.tmps) (fun _ => rfl) (fun _ _ => rfl) _ vs0 hres
      refine ⟨us, ?_, u2, u3⟩
      rw [hdef]
      simp only [Sem.run_bind]
      rw [Array.mapM_eq_mapM_toList]
      simp only [Sem.run_map]
      rw [u1]; rfl
    obtain ⟨us, hrun, u2, u3⟩ := hrun
    cases hp : (bif frz then prepAll s'.O vs0 else some (vs0, [], [])) with
    | none => rw [hp] at hfin; simp at hfin
    | some p3 =>
      obtain ⟨vs1, u, cc⟩ := p3
      rw [hp] at hfin; simp only at hfin
      generalize hps : List.range objs.length ++ (reach (updO s'.O u) 64 ((one vs1).refs 6 ++ (List.range objs.length).flatMap fun i => objRefs (updO s'.O u i)) []).filter (fun i => Nat.ble objs.length i) = ps at hfin
      cases hnd : nodupB ps with
      | false => rw [hnd] at hfin; simp at hfin
      | true =>
        rw [hnd] at hfin; simp only [cond_true] at hfin
        cases hr1 : (one vs1).ren (fun i => idx i ps 0) 6 with
        | none => rw [hr1] at hfin; simp at hfin
        | some r' =>
          cases ho1 : mapO (fun i => match updO s'.O u i with | some p => p.ren (fun i => idx i ps 0) | none => none) ps with
          | none => rw [hr1, ho1] at hfin; simp at hfin
          | some os =>
            rw [hr1, ho1] at hfin; simp only [Option.some.injEq, Prod.mk.injEq] at hfin
            obtain ⟨rfl, rfl, rfl⟩ := hfin
            have pre : ∃ κ1, FRel κ1 φ' w' { s' with O := updO s'.O u } a' ∧ Mono κ' φ' s'.O w'.heap κ1 φ' (updO s'.O u) w'.heap ∧ Fr κ' w' κ1 w' ∧ vs1.length = vs0.length ∧
                ∀ (i : Nat) (x : RV) (v : Value), vs1[i]? = some x → us[i]? = some v → RVR κ1 φ' (updO s'.O u) w'.heap x v := by
              cases frz with
              | true =>
                simp only [cond_true] at hp
                obtain ⟨κ1, q1, q2, q3, _, q5, q6⟩ := prepAll_ok F' (Frzd.refl _) hp hcs (vs := us) u2 u3
                exact ⟨κ1, q1, q2, q3, q5, q6⟩
              | false =>
                simp only [cond_false, Option.some.injEq, Prod.mk.injEq] at hp
                obtain ⟨rfl, rfl, rfl⟩ := hp
                exact ⟨κ', F', Mono.refl _ _ _ _, Fr.refl _ _, rfl, u3⟩
            obtain ⟨κ1, F1, M1, R1, l1, hv1⟩ := pre
            have hone := one_ok (us := us) (vs := vs1) (by omega) hv1
            obtain ⟨o1, o2⟩ := mapO_spec _ ps os ho1
            -- the objects, numbered from the caller's on
            let κ2 : Kap := fun b => match κ1 b with
              | .imm => .imm
              | .own i => match idx i ps 0 with | some j => .own j | none => .oth
              | .oth => .oth
            let φ2 : Phi := fun j => match ps[j]? with | some i => φ' i | none => .un
            have idxps : ∀ (i j : Nat), idx i ps 0 = some j → ps[j]? = some i := fun i j h => by have := (idx_spec i ps 0 j h).2; simpa using this
            have psidx : ∀ (i j : Nat), ps[j]? = some i → idx i ps 0 = some j := fun i j h => by
              obtain ⟨k, hk⟩ := idx_mem i ps 0 (List.mem_iff_getElem?.2 ⟨j, h⟩)
              rw [hk, nodupB_spec ps hnd k j i (idxps i k hk) h]
            have himm : ∀ b, κ1 b = .imm → κ2 b = .imm := fun b hb => by simp only [κ2, hb]
            have hφ2 : ∀ (i j : Nat), idx i ps 0 = some j → φ' i ≠ .un → φ2 j = φ' i := fun i j h _ => by simp only [φ2, idxps i j h]
            have objAt : ∀ (j i : Nat), ps[j]? = some i → ∃ p q, updO s'.O u i = some p ∧ p.ren (fun i => idx i ps 0) = some q ∧ os[j]? = some q := by
              intro j i h
              have hlt := (List.getElem?_eq_some_iff.1 h).1
              have hlt2 : j < os.length := by omega
              have hq : os[j]? = some os[j] := by simp [hlt2]
              have := o2 j i _ h hq
              cases e : updO s'.O u i with
              | none => simp only [e] at this; cases this
              | some p => simp only [e] at this; exact ⟨p, _, rfl, this, hq⟩
            have hlen2 : ∀ (i j n : Nat), idx i ps 0 = some j → φ' i ≠ .un → PObj.len? (tabOf os j) = some n → PObj.len? (updO s'.O u i) = some n := by
              intro i j n h _ hn
              obtain ⟨p, q, e1, e2, e3⟩ := objAt j i (idxps i j h)
              rw [e1, ← ren_len e2]; simp only [tabOf, e3] at hn; exact hn
            have first : ∀ i, i < objs.length → ps[i]? = some i := fun i hi => by
              rw [← hps, List.getElem?_append_left (by simpa using hi)]; simp [hi]
            refine ⟨_, hrun, _, r', os, κ2, φ2, rfl, hQ, RVR.ren (ρ := fun i => idx i ps 0) himm hφ2 hlen2 6 _ _ _ hr1 hone, fun j => ?_, fun b hb => F1.bnd b (fun e => by simp only [κ2, e] at hb; exact hb rfl), ?_,
              R'.trans (R1.trans ⟨Nat.le_refl _, fun b hb => ⟨himm b hb, rfl⟩, fun b _ hb => ⟨by simp only [κ2, hb], rfl⟩, fun _ c _ fz hc => ⟨c, fz, hc, rfl⟩, rfl, rfl⟩), ⟨fun i hi => ?_, fun i n hi hn => ?_⟩⟩
            · cases hj : ps[j]? with
              | none =>
                have : os[j]? = none := by rw [List.getElem?_eq_none_iff] at hj ⊢; omega
                simp only [tabOf, this]
                show φ2 j = .un
                simp only [φ2, hj]
              | some i =>
                obtain ⟨p, q, e1, e2, e3⟩ := objAt j i hj
                simp only [tabOf, e3]
                have ho := F1.objs i
                simp only [e1] at ho
                exact OR.ren (ρ := fun i => idx i ps 0) himm hφ2 hlen2 (psidx i j hj) (fun b hb => by simp only [κ2, hb, psidx i j hj]) e2 ho
            · rw [o1, ← hps]; simp
            · -- the first objects lie where they lay
              have hlt : i < objs.length := by
                rcases Nat.lt_or_ge i objs.length with h | h
                · exact h
                · exfalso; apply hi
                  have := h1 i
                  have e : tabOf objs i = none := by simp only [tabOf]; exact List.getElem?_eq_none h
                  rw [e] at this; exact this
              simp only [φ2, first i hlt]
              exact K'.phi i hlt hi
            · have hlt : i < objs.length := by
                rcases Nat.lt_or_ge i objs.length with h | h
                · exact h
                · exfalso; apply hi
                  have := h1 i
                  have e : tabOf objs i = none := by simp only [tabOf]; exact List.getElem?_eq_none h
                  rw [e] at this; exact this
              have h2' : φ' i ≠ .un := by rw [K'.phi i hlt hi]; exact hi
              have := hlen2 i i n (psidx i i (first i hlt)) h2' hn
              exact K'.len i n hlt hi (M1.len i n h2' this)

end Go.Am

/-
  The abstract machine: what a proof about a function is made of.
-/
namespace Go.Am
variable {P : Program}

def T.ofL {α : Type} : Nat → List α → T α
  | _, [] => .nil
  | k, x :: r => (T.ofL (k + 1) r).set k (some x)

theorem T.ofL_get {α : Type} : ∀ (l : List α) (k i : Nat), k + l.length ≤ 65000 → (T.ofL k l).get i = if i < k then none else l[i - k]?
  | [], k, i, _ => by simp [T.ofL, T.get]
  | x :: r, k, i, h => by
    simp only [List.length_cons] at h
    simp only [T.ofL]
    by_cases e : i = k
    · subst e; rw [T.get_set_same _ (by omega), if_neg (by omega)]; simp
    · rw [T.get_set_ne _ e, T.ofL_get r (k + 1) i (by omega)]
      by_cases h1 : i < k
      · rw [if_pos (by omega), if_pos h1]
      · rw [if_neg (by omega), if_neg h1, show i - k = (i - (k + 1)) + 1 by omega]; rfl

/-- The state in which a function begins. -/
def ini (n : Nat) (args : List RV) (objs : List PObj) : ESt := { n := n, m := objs.length, regs := T.ofL 0 args, objs := T.ofL 0 objs }

theorem C_of_run {f : FuncId} {fn : Func} {body : Code} {args : List RV} {objs : List PObj} (frz : Bool) {Q : RV → List PObj → Prop} (hf : P.funcs[f]? = some fn) (hb : fn.body = some body)
    (hn : (Nat.ble args.length fn.ntmps && Nat.ble args.length 60000 && Nat.ble objs.length 60) = true)
    (h : WK P objs.length [.code body] (ini fn.ntmps args objs).den
      (fun s => ∃ r objs' c, finish (Env.of P) frz objs.length fn.results.toList s.R s.O = some (r, objs', c) ∧ (∀ b ∈ c, b = true) ∧ Q r objs')) : C P f args objs Q := by
  simp only [Bool.and_eq_true] at hn
  have h1 := Nat.le_of_ble_eq_true hn.1.1
  have h2 := Nat.le_of_ble_eq_true hn.1.2
  have h3 := Nat.le_of_ble_eq_true hn.2
  refine C_of_WK (frz := frz) hf hb h1 ?_
  have e : (ini fn.ntmps args objs).den = { n := fn.ntmps, R := fun t => (args[t]?).getD .bot, O := tabOf objs } := by
    simp only [ini, ESt.den]
    congr 1
    · funext t
      unfold regOf
      rw [T.ofL_get _ _ _ (by omega)]
      simp only [Nat.not_lt_zero, if_false, Nat.sub_zero]
      cases args[t]? <;> rfl
    · funext i
      rw [T.ofL_get _ _ _ (by omega)]
      simp [tabOf]
  rw [← e]; exact h

/-- The stacks at the heads of a code's loops, in the order in which they stand. -/
def stacks : Code → List It → List (List It)
  | .seq x y, k => stacks x (.code y :: k) ++ stacks y k
  | .cond _ x y, k => stacks x k ++ stacks y k
  | .block id b, k => stacks b (.blk id :: k)
  | .loop b, k => (.code b :: .lp b :: k) :: stacks b (.lp b :: k)
  | .scope b, k => stacks b (.scp b :: k)
  | _, _ => []

def stackAt (body : Code) (i : Nat) : List It := (stacks body []).getD i []

def Obl : List Bool → Prop
  | [] => True
  | c :: r => c = true ∧ Obl r
def ObE : List (RV × RV) → Prop
  | [] => True
  | (x, y) :: r => RVle x y ∧ ObE r

theorem Obl.all : ∀ {l : List Bool}, Obl l → ∀ c ∈ l, c = true
  | [], _, c, h => by simp at h
  | x :: r, ⟨h1, h2⟩, c, h => by
    rcases List.mem_cons.1 h with rfl | h
    · exact h1
    · exact Obl.all h2 c h
theorem ObE.all : ∀ {l : List (RV × RV)}, ObE l → ∀ e ∈ l, RVle e.1 e.2
  | [], _, e, h => by simp at h
  | (x, y) :: r, ⟨h1, h2⟩, e, h => by
    rcases List.mem_cons.1 h with rfl | h
    · exact h1
    · exact ObE.all h2 e h

theorem le_bool {a b : Bool} (h : a = b) : RVle (.d (.bool a)) (.d (.bool b)) := .of_eq (by rw [h])

/-- A run to a loop's head, or to the same loop's next round; what is kept there. -/
def runSeg (cf : Cfg) (n l : Nat) (ov : Ov) (p : Post) (k : List It) (st : ESt) : Option (List It × ESt × List Bool × List (RV × RV)) :=
  match drive cf ov n l k { st := st, cs := [], es := [] } with
  | some (k', ac) => match k' with
    | [] => none
    | _ :: _ => match doPost p ac.st with
      | some st' => some (k', st', ac.cs, ac.es)
      | none => none
  | none => none

/-- A run to the function's end: what it gives. -/
def runEnd (cf : Cfg) (frz : Bool) (rs : List ResultVar) (n l : Nat) (ov : Ov) (k : List It) (st : ESt) : Option (RV × List PObj × List Bool × List (RV × RV)) :=
  match drive cf ov n l k { st := st, cs := [], es := [] } with
  | some (k', ac) => match k' with
    | [] => match finish cf.E frz ac.st.m rs (regOf ac.st.regs) ac.st.objs.get with
      | some (r, o, c) => some (r, o, ac.cs ++ c, ac.es)
      | none => none
    | _ :: _ => none
  | none => none

theorem drive_m {cf : Cfg} {ov : Ov} : ∀ (n l : Nat) (k k' : List It) (ac ac' : Acc), drive cf ov n l k ac = some (k', ac') → ac'.st.m = ac.st.m
  | 0, _, _, _, _, _, h => by simp [drive] at h
  | n + 1, l, k, k', ac, ac', h => by
    have base : ∀ {k k' : List It} {a a' : Acc}, some (k, a) = some (k', a') → a'.st.m = a.st.m := by
      intro k k' a a' h
      injection h with h; injection h with h1 h2; subst h2; rfl
    unfold drive at h
    split at h
    · exact base h
    · exact drive_m n l _ _ _ _ h
    · exact drive_m n l _ _ _ _ h
    · split at h
      · exact base h
      · exact drive_m n _ _ _ _ _ h
    · split at h
      · exact drive_m n l _ _ _ _ h
      · exact drive_m n l _ _ _ _ h
      · split at h
        · rename_i a1 hs
          have := (stepRegion_cs hs).2.2.1
          rw [drive_m n l _ _ _ _ h, this]
        · simp at h
      · split at h
        · split at h <;> exact drive_m n l _ _ _ _ h
        · simp at h
      · exact drive_m n l _ _ _ _ h
      · split at h
        · exact base h
        · exact drive_m n _ _ _ _ _ h
      · split at h
        · exact drive_m n l _ _ _ _ h
        · simp at h
      · exact base h
      · exact drive_m n l _ _ _ _ h
      · exact drive_m n l _ _ _ _ h
      · simp at h

structure Ok (P : Program) (cf : Cfg) : Prop where
  cf : CfOk P cf
  mix : P.follows .mixedOrders = true

theorem WK.seg {cf : Cfg} (hok : Ok P cf) {m : Nat} {st st' : ESt} {k k' : List It} {Q : SSt → Prop} (n l : Nat) (ov : Ov) (p : Post) (cs : List Bool) (es : List (RV × RV)) (hm : st.m = m)
    (h : runSeg cf n l ov p k st = some (k', st', cs, es)) (hc : Obl cs) (he : ObE es) (hk : WK P m k' st'.den Q) : WK P m k st.den Q := by
  subst hm
  unfold runSeg at h
  split at h
  · rename_i k1 ac hd
    split at h
    · simp at h
    · rename_i x k1
      cases hp : doPost p ac.st with
      | none => rw [hp] at h; simp at h
      | some s1 =>
        rw [hp] at h; simp only [Option.some.injEq, Prod.mk.injEq] at h
        obtain ⟨rfl, rfl, rfl, rfl⟩ := h
        have hm1 := drive_m _ _ _ _ _ _ hd
        refine drive_wk hok.cf hok.mix n l k _ { st := st, cs := [], es := [] } ac hd hc.all he.all (fun e => by simp at e) (fun _ => ?_)
        rw [← hm1]
        refine doPost_wk hp ?_
        rw [hm1]; exact hk
  · simp at h

theorem WK.fin {cf : Cfg} (hok : Ok P cf) {m : Nat} {st : ESt} {k : List It} {rs : List ResultVar} {frz : Bool} {Q : RV → List PObj → Prop} (n l : Nat) (ov : Ov) {r : RV} {o : List PObj} (cs : List Bool) (es : List (RV × RV)) (hm : st.m = m)
    (h : runEnd cf frz rs n l ov k st = some (r, o, cs, es)) (hc : Obl cs) (he : ObE es) (hQ : Q r o) :
    WK P m k st.den (fun s => ∃ r objs' c, finish (Env.of P) frz m rs s.R s.O = some (r, objs', c) ∧ (∀ b ∈ c, b = true) ∧ Q r objs') := by
  subst hm
  unfold runEnd at h
  split at h
  · rename_i k1 ac hd
    split at h
    · rw [hok.cf.E] at h
      cases hf : finish (Env.of P) frz ac.st.m rs (regOf ac.st.regs) ac.st.objs.get with
      | none => rw [hf] at h; simp at h
      | some p =>
        obtain ⟨r', o', c'⟩ := p
        rw [hf] at h; simp only [Option.some.injEq, Prod.mk.injEq] at h
        obtain ⟨rfl, rfl, rfl, rfl⟩ := h
        have hm1 := drive_m _ _ _ _ _ _ hd
        refine drive_wk hok.cf hok.mix n l k _ { st := st, cs := [], es := [] } ac hd (fun c hcc => hc.all c (by simp [hcc])) he.all (fun _ => ?_) (fun e => by simp at e)
        rw [← hm1]
        exact ⟨r', o', c', hf, fun b hb => hc.all b (by simp [hb]), hQ⟩
    · simp at h
  · simp at h

/-- A loop, or whatever comes again: by a measure. -/
theorem WK.rec' {m : Nat} {k : List It} {Q : SSt → Prop} {σ : Type} (S : σ → ESt) (inv : σ → Prop) (μ : σ → Nat)
    (round : ∀ y, inv y → (∀ z, inv z → μ z < μ y → WK P m k (S z).den Q) → WK P m k (S y).den Q) : ∀ y, inv y → WK P m k (S y).den Q := by
  have key : ∀ n y, μ y = n → inv y → WK P m k (S y).den Q := by
    intro n
    induction n using Nat.strongRecOn with
    | _ n ih => exact fun y hn hy => round y hy fun z hz hlt => ih (μ z) (hn ▸ hlt) z rfl hz
  exact fun y hy => key _ y rfl hy

def rvObjs : Nat → RV → List Nat
  | 0, _ => []
  | d + 1, v => match v with
    | .ptr i _ => [i]
    | .eptr i _ _ _ => [i]
    | .own i _ => [i]
    | .sub i _ _ _ => [i]
    | .map i => [i]
    | .clo _ f c => f.flatMap (rvObjs d) ++ c.flatMap (rvObjs d)
    | .agg cs => cs.flatMap (rvObjs d)
    | .tup vs => vs.flatMap (rvObjs d)
    | _ => []
def poObjs : Option PObj → List Nat
  | some (.box _ cs) => cs.flatMap (rvObjs 6)
  | _ => []
def reachO (O : T PObj) : Nat → List Nat → List Nat → List Nat
  | 0, _, seen => seen
  | _ + 1, [], seen => seen
  | f + 1, i :: r, seen => bif seen.any (Nat.beq i) then reachO O f r seen else reachO O f (r ++ poObjs (O.get i)) (seen ++ [i])
/-- What is kept is found by what the live registers reachO; it comes to lie from 200 on. -/
def autoP (nils : List (Nat × Nat × Nat × Nat)) (live : List Nat) (st : ESt) : Post :=
  let olds := (reachO st.objs 300 (live.flatMap fun t => rvObjs 6 (regOf st.regs t)) []).filter (fun i => Nat.ble st.m i)
  { nils := nils, live := live, olds := olds, nws := (List.range olds.length).map (200 + ·) }

def runSegA (cf : Cfg) (n l : Nat) (ov : Ov) (nils : List (Nat × Nat × Nat × Nat)) (live : List Nat) (k : List It) (st : ESt) : Option (List It × ESt × List Bool × List (RV × RV)) :=
  match drive cf ov n l k { st := st, cs := [], es := [] } with
  | some (k', ac) => match k' with
    | [] => none
    | _ :: _ => match doNils nils ac.st with
      | some s1 => match doKeep (autoP nils live s1) s1 with
        | some st' => some (k', st', ac.cs, ac.es)
        | none => none
      | none => none
  | none => none

theorem runSegA_seg {cf : Cfg} {n l : Nat} {ov : Ov} {nils : List (Nat × Nat × Nat × Nat)} {live : List Nat} {k : List It} {st : ESt} {x : List It × ESt × List Bool × List (RV × RV)}
    (h : runSegA cf n l ov nils live k st = some x) : ∃ p, runSeg cf n l ov p k st = some x := by
  unfold runSegA at h
  split at h
  · rename_i k1 ac hd
    split at h
    · simp at h
    · rename_i y k1
      cases hn : doNils nils ac.st with
      | none => rw [hn] at h; simp at h
      | some s1 =>
        rw [hn] at h; simp only at h
        cases hk : doKeep (autoP nils live s1) s1 with
        | none => rw [hk] at h; simp at h
        | some st' =>
          rw [hk] at h
          refine ⟨autoP nils live s1, ?_⟩
          unfold runSeg
          rw [hd]
          simp only [doPost]
          have : (autoP nils live s1).nils = nils := rfl
          rw [this, hn]
          simp only [hk]
          exact h
  · simp at h

theorem WK.segA {cf : Cfg} (hok : Ok P cf) {m : Nat} {st st' : ESt} {k k' : List It} {Q : SSt → Prop} (n l : Nat) (ov : Ov) (nils : List (Nat × Nat × Nat × Nat)) (live : List Nat) (cs : List Bool) (es : List (RV × RV)) (hm : st.m = m)
    (h : runSegA cf n l ov nils live k st = some (k', st', cs, es)) (hc : Obl cs) (he : ObE es) (hk : WK P m k' st'.den Q) : WK P m k st.den Q :=
  let ⟨p, hp⟩ := runSegA_seg h
  WK.seg hok n l ov p cs es hm hp hc he hk

end Go.Am

/-
  The abstract machine: contracts that were walked otherwise.
-/
namespace Go.Am
open Go.RowKit
variable {P : Program}

def DV.one : DV → Option Value
  | .bool b => some (.bool b)
  | .int k n => some (.int k n)
  | .str s => some (.string ⟨s.toArray⟩)
  | .nilp => some (.pointer none)
  | .nilf => some .nilFunc
  | .nili => some .nilIface
  | _ => none
def DV.ones : List DV → Option (List Value)
  | [] => some []
  | x :: r => match x.one, DV.ones r with
    | some v, some l => some (v :: l)
    | _, _ => none
def DV.flat : DV → Option Value
  | .agg cs => match DV.ones cs with
    | some l => some (.agg l.toArray)
    | none => none
  | .tup cs => match DV.ones cs with
    | some l => some (.tuple l.toArray)
    | none => none
  | x => x.one

theorem DR.one {κ : Kap} {h : Heap} {x : DV} {v u : Value} (r : DR κ h x v) (e : x.one = some u) : v = u := by
  cases r <;> simp_all [DV.one]
theorem DR.of_one {κ : Kap} {h : Heap} {x : DV} {u : Value} (e : x.one = some u) : DR κ h x u := by
  cases x <;> simp [DV.one] at e <;> subst e <;> constructor
theorem DV.one_scal {x : DV} {u : Value} (e : x.one = some u) : x.scal = true := by cases x <;> first | rfl | (simp [DV.one] at e)

theorem DV.ones_spec : ∀ (cs : List DV) (us : List Value), DV.ones cs = some us → us.length = cs.length ∧ (∀ x ∈ cs, ∃ u, x.one = some u) ∧ ∀ (i : Nat) (x : DV) (u : Value), cs[i]? = some x → us[i]? = some u → x.one = some u
  | [], us, h => by simp [DV.ones] at h; subst h; simp
  | x :: cs, us, h => by
    simp only [DV.ones] at h
    cases h1 : x.one with
    | none => rw [h1] at h; simp at h
    | some v =>
      cases h2 : DV.ones cs with
      | none => rw [h1, h2] at h; simp at h
      | some l =>
        rw [h1, h2] at h; simp at h; subst h
        obtain ⟨g1, g2, g3⟩ := DV.ones_spec cs l h2
        refine ⟨by simp [g1], fun y hy => ?_, fun i y u hy hu => ?_⟩
        · rcases List.mem_cons.1 hy with rfl | hy
          · exact ⟨v, h1⟩
          · exact g2 y hy
        · cases i with
          | zero => simp at hy hu; subst hy; subst hu; exact h1
          | succ i => exact g3 i y u (by simpa using hy) (by simpa using hu)

theorem DR.flat {κ : Kap} {h : Heap} {x : DV} {v u : Value} (r : DR κ h x v) (e : x.flat = some u) : v = u := by
  have key : ∀ {cs : List DV} {vs : Array Value} {l : List Value}, DV.ones cs = some l → vs.size = cs.length → (∀ (i : Nat) (x : DV) (v : Value), cs[i]? = some x → vs[i]? = some v → DR κ h x v) → vs = l.toArray := by
    intro cs vs l h1 h2 h3
    obtain ⟨g1, g2, g3⟩ := DV.ones_spec cs l h1
    apply Array.ext
    · simp; omega
    · intro i hi hi2
      simp at hi2
      have e1 : cs[i]? = some cs[i] := by simp [show i < cs.length by omega]
      have e2 : vs[i]? = some vs[i] := by simp [hi]
      have e3 : l[i]? = some l[i] := by simp [hi2]
      have := (h3 i _ _ e1 e2).one (g3 i _ _ e1 e3)
      simpa using this
  cases x with
  | agg cs =>
    simp only [DV.flat] at e
    cases h1 : DV.ones cs with
    | none => rw [h1] at e; simp at e
    | some l =>
      rw [h1] at e; simp at e; subst e
      cases r with
      | agg hl hs hr => rw [key h1 hl hr]
  | tup cs =>
    simp only [DV.flat] at e
    cases h1 : DV.ones cs with
    | none => rw [h1] at e; simp at e
    | some l =>
      rw [h1] at e; simp at e; subst e
      cases r with
      | tup hl hr => rw [key h1 hl hr]
  | _ => exact r.one e

theorem DR.of_flat {κ : Kap} {h : Heap} {x : DV} {u : Value} (e : x.flat = some u) : DR κ h x u := by
  cases x with
  | agg cs =>
    simp only [DV.flat] at e
    cases h1 : DV.ones cs with
    | none => rw [h1] at e; simp at e
    | some l =>
      rw [h1] at e; simp at e; subst e
      obtain ⟨g1, g2, g3⟩ := DV.ones_spec cs l h1
      exact .agg (by simpa using g1) (fun y hy => by obtain ⟨u, hu⟩ := g2 y hy; exact DV.one_scal hu) (fun i x v hx hv => DR.of_one (g3 i x v hx (by simpa using hv)))
  | tup cs =>
    simp only [DV.flat] at e
    cases h1 : DV.ones cs with
    | none => rw [h1] at e; simp at e
    | some l =>
      rw [h1] at e; simp at e; subst e
      obtain ⟨g1, g2, g3⟩ := DV.ones_spec cs l h1
      exact .tup (by simpa using g1) (fun i x v hx hv => DR.of_one (g3 i x v hx (by simpa using hv)))
  | _ => exact DR.of_one e

theorem tabNil (i : Nat) : tabOf [] i = none := by simp [tabOf]

/-- A contract of data out of a walk that turns no block that was there. -/
theorem C_of_calls {f : FuncId} {args : List DV} {d : DV}
    (h : ∀ (κ : Kap) (w : World) (vs : Array Value), (∀ b, κ b ≠ .oth → b < w.heap.size) → vs.size = args.length → (∀ (i : Nat) (x : DV) (v : Value), args[i]? = some x → vs[i]? = some v → DR κ w.heap x v) →
      Calls P f vs w fun e w' => ∃ v κ', e = .returned v ∧ DR κ' w'.heap d v ∧ (w.heap.size ≤ w'.heap.size ∧ w'.os = w.os ∧ w'.output = w.output) ∧ (∀ b, b < w.heap.size → w'.heap[b]? = w.heap[b]? ∧ κ' b = κ b) ∧ (∀ b, κ' b ≠ .oth → b < w'.heap.size)) :
    C P f (args.map .d) [] (fun r o => r = .d d ∧ o = []) := by
  intro κ φ w vs h1 h2 h3 h4
  refine (h κ w vs h2 (by simpa using h3) (fun i x v hx hv => ?_)).mono ?_
  · have := h4 i (.d x) v (by simp [hx]) hv
    cases this with
    | d hr => exact hr
  · rintro e w' ⟨v, κ', rfl, hd, hs, hb, hn⟩
    refine ⟨v, .d d, [], κ', φ, rfl, ⟨rfl, rfl⟩, .d hd, fun i => ?_, hn, Nat.le_refl _, ⟨hs.1, fun b hk => ?_, fun b hl hk => ?_, fun b c ty fz hc => ?_, hs.2.1, hs.2.2⟩, Kp.refl _ _⟩
    · have := h1 i
      rw [tabNil] at this ⊢
      exact this
    · have hl := h2 b (by rw [hk]; simp)
      exact ⟨(hb b hl).2.trans hk, (hb b hl).1⟩
    · exact ⟨(hb b hl).2.trans hk, (hb b hl).1⟩
    · have hl : b < w.heap.size := by
        rcases Nat.lt_or_ge b w.heap.size with h' | h'
        · exact h'
        · rw [Array.getElem?_eq_none h'] at hc; simp at hc
      exact ⟨c, fz, (hb b hl).1.trans hc, rfl⟩

/-- Plain data in, plain data out. -/
theorem C_flat {f : FuncId} {args : List DV} {us : List Value} {d : DV} {v : Value} (ha : mapO DV.flat args = some us) (hd : d.flat = some v)
    (h : ∀ w : World, Calls P f us.toArray w fun e w' => e = .returned v ∧ Below w.heap.size w w') : C P f (args.map .d) [] (fun r o => r = .d d ∧ o = []) := by
  obtain ⟨g1, g2⟩ := mapO_spec _ args us ha
  refine C_of_calls fun κ w vs hk hl hr => ?_
  have : vs = us.toArray := by
    apply Array.ext
    · simp; omega
    · intro i hi hi2
      simp at hi2
      have e1 : args[i]? = some args[i] := by simp [show i < args.length by omega]
      have e2 : vs[i]? = some vs[i] := by simp [hi]
      have e3 : us[i]? = some us[i] := by simp [hi2]
      simpa using (hr i _ _ e1 e2).flat (g2 i _ _ e1 e3)
  subst this
  refine (h w).mono ?_
  rintro e w' ⟨rfl, hB⟩
  exact ⟨v, κ, rfl, DR.of_flat hd, ⟨hB.size, hB.os, hB.output⟩, fun b hb => ⟨hB.block b hb, rfl⟩, fun b hb => Nat.lt_of_lt_of_le (hk b hb) hB.size⟩

/-- A new row of cells, as data. -/
def newImm (κ : Kap) (v : Value) : Kap := fun b => if v.ownBlock = some b then .imm else κ b

theorem newRow {κ : Kap} {w w' : World} {e : TypeId} {sz n : Nat} {v : Value} {xs : List Value} {els : List DV} (ho : w'.ownsRow w.heap.size e sz v n xs) (hn : n = els.length) (hz : ElsOk sz els)
    (hx : ∀ (i : Nat) (x : DV) (j : Nat) (y : DV) (u : Value), els[i]? = some x → x.cells[j]? = some y → xs[i * sz + j]? = some u → y.one = some u)
    (hk : ∀ b, κ b ≠ .oth → b < w.heap.size) (hs : w.heap.size ≤ w'.heap.size) :
    DR (newImm κ v) w'.heap (.lst sz els false) v ∧ (∀ b, b < w.heap.size → newImm κ v b = κ b) ∧ (∀ b, newImm κ v b ≠ .oth → b < w'.heap.size) := by
  obtain ⟨h1, h2⟩ := ho
  rcases h2 with ⟨rfl, h0⟩ | ⟨g, cap, cur, rfl, hg, hc, h3, _, h4, h5⟩
  · have : els = [] := List.eq_nil_of_length_eq_zero (by omega)
    subst this
    exact ⟨.lst0 (fun h => by cases h), fun b _ => by simp [newImm, Value.ownBlock], fun b hb => by simp [newImm, Value.ownBlock] at hb; exact Nat.lt_of_lt_of_le (hk b hb) hs⟩
  · subst hn
    have hlt : g < w'.heap.size := by
      rcases Nat.lt_or_ge g w'.heap.size with h' | h'
      · exact h'
      · rw [Array.getElem?_eq_none h'] at hc; simp at hc
    refine ⟨.lst (by simp [newImm, Value.ownBlock]) hc (fun h => by cases h) h3 (by omega) hz (fun i x j y u hi hj hu => ?_), fun b hb => ?_, fun b hb => ?_⟩
    · have hil := (List.getElem?_eq_some_iff.1 hi).1
      have hjl : j < sz := by
        have := (hz x (List.mem_of_getElem? hi)).1
        have := (List.getElem?_eq_some_iff.1 hj).1
        omega
      have hlt : i * sz + j < els.length * sz := by
        have : (i + 1) * sz ≤ els.length * sz := Nat.mul_le_mul_right _ hil
        rw [Nat.add_mul, Nat.one_mul] at this; omega
      refine DR.of_one (hx i x j y u hi hj ?_)
      rw [← h5, List.getElem?_take, if_pos hlt]
      simpa using hu
    · simp only [newImm, Value.ownBlock, Option.some.injEq]
      rw [if_neg (by omega)]
    · simp only [newImm, Value.ownBlock, Option.some.injEq] at hb
      by_cases e : g = b
      · subst e; exact hlt
      · rw [if_neg e] at hb; exact Nat.lt_of_lt_of_le (hk b hb) hs

end Go.Am

/-
  The abstract machine: tables of contracts; functions that are run where they are called.
-/
namespace Go.Am
variable {P : Program}

abbrev Ent := List RV → List PObj → Option (RV × List PObj × List Bool)

def findE : List (Nat × Ent) → Nat → Option Ent
  | [], _ => none
  | (i, g) :: r, f => bif Nat.beq i f then some g else findE r f

def konOf (l : List (Nat × Ent)) : Kon := fun f a o => match findE l f with
  | some g => g a o
  | none => none

def EntOk (P : Program) (f : Nat) (g : Ent) : Prop := ∀ a o r o' c, g a o = some (r, o', c) → (∀ b ∈ c, b = true) → C P f a o (fun r2 o2 => r2 = r ∧ o2 = o')

theorem findE_spec : ∀ (l : List (Nat × Ent)) (f : Nat) (g : Ent), findE l f = some g → (f, g) ∈ l
  | [], f, g, h => by simp [findE] at h
  | (i, g') :: r, f, g, h => by
    simp only [findE] at h
    cases hb : Nat.beq i f with
    | true => rw [hb] at h; simp at h; subst h; have := nbE hb; subst this; simp
    | false => rw [hb] at h; simp at h; simp [findE_spec r f g h]

inductive EntsOk (P : Program) : List (Nat × Ent) → Prop
  | nil : EntsOk P []
  | cons {f : Nat} {g : Ent} {l : List (Nat × Ent)} (h : EntOk P f g) (t : EntsOk P l) : EntsOk P ((f, g) :: l)

theorem EntsOk.mem {l : List (Nat × Ent)} (h : EntsOk P l) : ∀ f g, (f, g) ∈ l → EntOk P f g := by
  induction h with
  | nil => intro f g hm; simp at hm
  | cons h _ ih =>
    intro f g hm
    rcases List.mem_cons.1 hm with e | hm
    · injection e with e1 e2; subst e1; subst e2; exact h
    · exact ih f g hm

theorem konOf_ok {l : List (Nat × Ent)} (h : EntsOk P l) : KSound P (konOf l) := by
  intro f args objs r objs' c hk hc
  unfold konOf at hk
  cases hf : findE l f with
  | none => rw [hf] at hk; simp at hk
  | some g => rw [hf] at hk; exact h.mem f g (findE_spec l f g hf) args objs r objs' c hk hc

def e0 (g : Option (DV × List Bool)) : Ent := fun a o => match a, o with
  | [], [] => match g with
    | some (y, c) => some (.d y, [], c)
    | none => none
  | _, _ => none
def e1 (g : DV → Option (DV × List Bool)) : Ent := fun a o => match a, o with
  | [.d x], [] => match g x with
    | some (y, c) => some (.d y, [], c)
    | none => none
  | _, _ => none
def e2 (g : DV → DV → Option (DV × List Bool)) : Ent := fun a o => match a, o with
  | [.d x, .d x2], [] => match g x x2 with
    | some (y, c) => some (.d y, [], c)
    | none => none
  | _, _ => none

theorem e0_ok {f : Nat} {g : Option (DV × List Bool)} (h : ∀ y c, g = some (y, c) → (∀ b ∈ c, b = true) → C P f [] [] (fun r o => r = .d y ∧ o = [])) : EntOk P f (e0 g) := by
  intro a o r o' c hg hc
  unfold e0 at hg
  split at hg
  · cases hx : g with
    | none => rw [hx] at hg; simp at hg
    | some p =>
      obtain ⟨y, c'⟩ := p
      rw [hx] at hg; simp at hg
      obtain ⟨rfl, rfl, rfl⟩ := hg
      exact h y c' hx hc
  · simp at hg
theorem e1_ok {f : Nat} {g : DV → Option (DV × List Bool)} (h : ∀ x y c, g x = some (y, c) → (∀ b ∈ c, b = true) → C P f [.d x] [] (fun r o => r = .d y ∧ o = [])) : EntOk P f (e1 g) := by
  intro a o r o' c hg hc
  unfold e1 at hg
  split at hg
  · rename_i x
    cases hx : g x with
    | none => rw [hx] at hg; simp at hg
    | some p =>
      obtain ⟨y, c'⟩ := p
      rw [hx] at hg; simp at hg
      obtain ⟨rfl, rfl, rfl⟩ := hg
      exact h x y c' hx hc
  · simp at hg
theorem e2_ok {f : Nat} {g : DV → DV → Option (DV × List Bool)} (h : ∀ x x2 y c, g x x2 = some (y, c) → (∀ b ∈ c, b = true) → C P f [.d x, .d x2] [] (fun r o => r = .d y ∧ o = [])) : EntOk P f (e2 g) := by
  intro a o r o' c hg hc
  unfold e2 at hg
  split at hg
  · rename_i x x2
    cases hx : g x x2 with
    | none => rw [hx] at hg; simp at hg
    | some p =>
      obtain ⟨y, c'⟩ := p
      rw [hx] at hg; simp at hg
      obtain ⟨rfl, rfl, rfl⟩ := hg
      exact h x x2 y c' hx hc
  · simp at hg

/-- A function that is run where it is called: every loop of it, all the way. -/
def runK (P : Program) (cf : Cfg) (n l : Nat) : Kon := fun f args objs =>
  match P.funcs[f]? with
  | some fn => match fn.body with
    | some body => bif Nat.ble args.length fn.ntmps && Nat.ble args.length 60000 && Nat.ble objs.length 60 then
        match runEnd cf (!(cf.byref f)) fn.results.toList n l [] [.code body] (ini fn.ntmps args objs) with
        | some (r, o, c, es) => match es with
          | [] => some (r, o, c)
          | _ :: _ => none
        | none => none
      else none
    | none => none
  | none => none

def orK (a b : Kon) : Kon := fun f args objs => match a f args objs with
  | some x => some x
  | none => b f args objs

theorem orK_ok {a b : Kon} (ha : KSound P a) (hb : KSound P b) : KSound P (orK a b) := by
  intro f args objs r objs' c hk hc
  unfold orK at hk
  cases h : a f args objs with
  | some x => rw [h] at hk; simp only [Option.some.injEq] at hk; subst hk; exact ha _ _ _ _ _ _ h hc
  | none => rw [h] at hk; exact hb _ _ _ _ _ _ hk hc

theorem runK_ok {cf : Cfg} (hok : Ok P cf) (n l : Nat) : KSound P (runK P cf n l) := by
  intro f args objs r objs' c hk hc
  unfold runK at hk
  cases hf : P.funcs[f]? with
  | none => rw [hf] at hk; simp at hk
  | some fn =>
    rw [hf] at hk; simp only at hk
    cases hb : fn.body with
    | none => rw [hb] at hk; simp at hk
    | some body =>
      rw [hb] at hk; simp only at hk
      cases hg : (Nat.ble args.length fn.ntmps && Nat.ble args.length 60000 && Nat.ble objs.length 60) with
      | false => rw [hg] at hk; simp at hk
      | true =>
        rw [hg] at hk; simp only [cond_true] at hk
        split at hk
        · rename_i r1 o1 c1 es1 hr
          split at hk
          · simp only [Option.some.injEq, Prod.mk.injEq] at hk
            obtain ⟨rfl, rfl, rfl⟩ := hk
            refine C_of_run (!(cf.byref f)) hf hb hg ?_
            refine WK.fin hok n l [] c1 [] rfl hr ?_ trivial ⟨rfl, rfl⟩
            clear hr
            induction c1 with
            | nil => trivial
            | cons x r ih => exact ⟨hc x (by simp), ih (fun b hb => hc b (by simp [hb]))⟩
          · simp at hk
        · simp at hk

/-- Contracts, and behind them so many layers of functions that are run. -/
def layer (P : Program) (base : Kon) (byref callOk : Nat → Bool) (n l : Nat) : Nat → Kon
  | 0 => base
  | d + 1 => orK base (runK P { E := Env.of P, K := layer P base byref callOk n l d, byref := byref, callOk := callOk } n l)

end Go.Am
namespace Go.Am
variable {P : Program}

theorem layer_ok {base : Kon} {byref cok : Nat → Bool} {n l : Nat} (hm : P.follows .mixedOrders = true) (hb : KSound P base) (hc : ∀ f, cok f = true → callOk P f = true) : ∀ d, KSound P (layer P base byref cok n l d)
  | 0 => hb
  | d + 1 => orK_ok hb (runK_ok (cf := { E := Env.of P, K := layer P base byref cok n l d, byref := byref, callOk := cok }) ⟨⟨rfl, layer_ok hm hb hc d, hc⟩, hm⟩ n l)

/-- What a table of contracts says, with its conditions met. -/
theorem KSound.use {K : Kon} (hk : KSound P K) {f : Nat} {args : List RV} {objs : List PObj} {r : RV} {o : List PObj} (c : List Bool) (h : K f args objs = some (r, o, c)) (hc : c.all id = true) :
    C P f args objs (fun r2 o2 => r2 = r ∧ o2 = o) := hk f args objs r o c h (fun b hb => by have := List.all_eq_true.1 hc b hb; simpa using this)

end Go.Am

/-
  The abstract machine: the arguments of a law, read as data; a law's statement out of its contract.
-/
namespace Go.Am
open Go.RowKit Go.ChangeShapes Go.WideShapes Go.ChangeAt
variable {P : Program}

def isAggT (P : Program) (t : TypeId) : Bool := match P.underlying t with
  | some (.struct _) => true
  | some (.array _ _) => true
  | _ => false

def elOf (agg : Bool) (cs : List DV) : DV := bif agg then .agg cs else cs.headD .nilp

/-- The cells of a value of a type, as data. -/
inductive Ty (P : Program) : TypeId → List DV → Prop
  | bool {t : TypeId} (h : P.underlying t = some .bool) (b : Bool) : Ty P t [.bool b]
  | int {t : TypeId} {k : IntKind} (h : P.underlying t = some (.int k)) {n : Int} (hw : (Lit.int k n).wf = true) : Ty P t [.int k n]
  | str {t : TypeId} (h : P.underlying t = some .string) {s : List UInt8} (hs : s.length ≤ maxLen) : Ty P t [.str s]
  | lst {t e : TypeId} (h : P.underlying t = some (.slice e)) {els : List DV} (hn : els.length ≤ maxLen)
      (hx : ∀ x ∈ els, x = elOf (isAggT P e) x.cells ∧ x.cells.length = P.cellsOf e) (he : ∀ x ∈ els, Ty P e x.cells) : Ty P t [.lst (P.cellsOf e) els false]
  | struct {t : TypeId} {fs : Array Field} (h : P.underlying t = some (.struct fs)) {cs : List DV} (hl : cs.length = P.cellsOf t)
      (hf : ∀ f ∈ fs, Ty P f.type ((cs.drop f.offset).take (P.cellsOf f.type))) : Ty P t cs

def okFs (P : Program) (ok : TypeId → Bool) : Nat → List Field → Nat → Bool
  | k, [], z => Nat.beq k z
  | k, f :: fs, z => Nat.beq f.offset k && ok f.type && okFs P ok (k + P.cellsOf f.type) fs z
def okT (P : Program) : Nat → TypeId → Bool
  | 0, _ => false
  | n + 1, t => match P.underlying t with
    | some .bool => Nat.beq (P.cellsOf t) 1
    | some (.int _) => Nat.beq (P.cellsOf t) 1
    | some .string => Nat.beq (P.cellsOf t) 1
    | some (.slice e) => Nat.beq (P.cellsOf t) 1 && Nat.ble 1 (P.cellsOf e) && (isAggT P e || Nat.beq (P.cellsOf e) 1) && okT P n e
    | some (.struct fs) => okFs P (okT P n) 0 fs.toList (P.cellsOf t)
    | _ => false

theorem mapM_get {α β : Type} {f : α → Option β} : ∀ {l : List α} {r : List β}, l.mapM f = some r → r.length = l.length ∧ ∀ (i : Nat) (x : α) (y : β), l[i]? = some x → r[i]? = some y → f x = some y
  | [], r, h => by simp at h; subst h; simp
  | x :: l, r, h => by
    rw [List.mapM_cons] at h
    cases hx : f x with
    | none => simp [hx] at h
    | some y =>
      cases hl : l.mapM f with
      | none => simp [hx, hl] at h
      | some q =>
        simp [hx, hl] at h; subst h
        obtain ⟨g1, g2⟩ := mapM_get hl
        refine ⟨by simp [g1], fun i a b ha hb => ?_⟩
        cases i with
        | zero => simp at ha hb; subst ha; subst hb; exact hx
        | succ i => exact g2 i a b (by simpa using ha) (by simpa using hb)

def DRs (κ : Kap) (h : Heap) (xs : List DV) (cs : List Value) : Prop :=
  xs.length = cs.length ∧ (∀ y ∈ xs, y.scal = true) ∧ ∀ (i : Nat) (x : DV) (v : Value), xs[i]? = some x → cs[i]? = some v → DR κ h x v

theorem DRs.one {κ : Kap} {h : Heap} {x : DV} {v : Value} (hs : x.scal = true) (r : DR κ h x v) : DRs κ h [x] [v] :=
  ⟨rfl, by simp [hs], fun i x' v' hx hv => by
    cases i with
    | zero => simp at hx hv; subst hx; subst hv; exact r
    | succ i => simp at hx⟩

theorem DRs.append {κ : Kap} {h : Heap} {xs ys : List DV} {cs ds : List Value} (a : DRs κ h xs cs) (b : DRs κ h ys ds) : DRs κ h (xs ++ ys) (cs ++ ds) := by
  refine ⟨by simp [a.1, b.1], fun y hy => ?_, fun i x v hx hv => ?_⟩
  · rcases List.mem_append.1 hy with hy | hy
    · exact a.2.1 y hy
    · exact b.2.1 y hy
  · by_cases hi : i < xs.length
    · rw [List.getElem?_append_left hi] at hx
      rw [List.getElem?_append_left (by have := a.1; omega)] at hv
      exact a.2.2 i x v hx hv
    · rw [List.getElem?_append_right (by omega)] at hx
      rw [List.getElem?_append_right (by have := a.1; omega), ← a.1] at hv
      exact b.2.2 _ x v hx hv

/-- At a law's entry nobody writes what is there. -/
def κ0 (w : World) : Kap := fun b => if b < w.heap.size then .imm else .oth

theorem cells_get {w : World} {base : Nat} {a : Addr} {n : Nat} {cs : List Value} (h : w.cells? base a n = some cs) : base ≤ a.block ∧ cs.length = n ∧ ∀ j, j < n → w.cell? (a.add j) = cs[j]? := by
  unfold World.cells? at h
  split at h
  · rename_i hb
    obtain ⟨g1, g2⟩ := mapM_get h
    simp at g1
    refine ⟨hb, g1, fun j hj => ?_⟩
    have e : cs[j]? = some cs[j] := by simp [show j < cs.length by omega]
    have := g2 j j cs[j] (by simp [hj]) e
    rw [this, e]
  · cases h

section
variable {H : Type} {enc : TypeId × Value → H} {w : World}

theorem elOf_cells {agg : Bool} {cs : List DV} (hs : ∀ y ∈ cs, y.scal = true) (h : agg = true ∨ cs.length = 1) : (elOf agg cs).cells = cs := by
  cases agg with
  | true => rfl
  | false =>
    have hl : cs.length = 1 := by rcases h with h | h; cases h; exact h
    match cs, hl with
    | [x], _ =>
      have := hs x (by simp)
      show x.cells = [x]
      cases x <;> first | rfl | (simp [DV.scal] at this)

theorem lt_heap {w : World} {b : Nat} {o : Obj} (e : w.heap[b]? = some o) : b < w.heap.size := by
  rcases Nat.lt_or_ge b w.heap.size with h' | h'
  · exact h'
  · rw [Array.getElem?_eq_none h'] at e; simp at e

theorem cell_form {w : World} {a : Addr} {v : Value} (h : w.cell? a = some v) : a.spot = none ∧ ∃ c ty fz, w.heap[a.block]? = some (.cells c ty fz) ∧ c[a.off]? = some v := by
  unfold World.cell? at h
  cases hb : w.heap[a.block]? with
  | none => rw [hb] at h; simp at h
  | some o =>
    rw [hb] at h
    cases o <;> simp at h
    rename_i c ty fz
    exact ⟨h.1, c, ty, fz, rfl, h.2⟩

theorem trod_slice {t e : TypeId} {fuel : Nat} (ht : P.underlying t = some (.slice e)) (hc1 : 1 ≤ P.cellsOf e) (hagg : isAggT P e = true ∨ P.cellsOf e = 1)
    (ih : ∀ (cs : List Value) (x : DataW H × List MemPlace), DataW.trod enc P w 0 (fun _ => true) true fuel e cs = some x → ∃ xs, xs.length = P.cellsOf e ∧ DRs (κ0 w) w.heap xs cs ∧ Ty P e xs)
    {cs : List Value} {x : DataW H × List MemPlace} (h : DataW.trod enc P w 0 (fun _ => true) true (fuel + 1) t cs = some x) : ∃ xs, xs.length = 1 ∧ DRs (κ0 w) w.heap xs cs ∧ Ty P t xs := by
  unfold DataW.trod at h
  rw [ht] at h
  match cs, h with
  | [.slice none 0 0], _ => exact ⟨[.lst (P.cellsOf e) [] false], rfl, .one rfl (.lst0 (fun h => by cases h)), .lst ht (by simp) (by simp) (by simp)⟩
  | [.slice (some a) len cap], h =>
    simp only at h
    split at h
    · rename_i hcond
      simp only [if_true, Option.bind_eq_some_iff, Option.map_eq_some_iff] at h
      obtain ⟨elems, he, rest, hr, _⟩ := h
      obtain ⟨e1, e2⟩ := mapM_get he
      obtain ⟨r1, r2⟩ := mapM_get hr
      simp only [List.length_range] at e1 r1
      have elem : ∀ i, i < cap → ∃ cs' x', w.cells? 0 (a.add (i * P.cellsOf e)) (P.cellsOf e) = some cs' ∧ DataW.trod enc P w 0 (fun _ => true) true fuel e cs' = some x' := by
        intro i hi
        by_cases hl : i < len
        · have q : elems[i]? = some elems[i] := by simp [show i < elems.length by omega]
          have := e2 i i _ (by simp [hl]) q
          simp only [Option.bind_eq_some_iff] at this
          obtain ⟨c, h1, h2⟩ := this
          exact ⟨c, _, h1, h2⟩
        · have q : rest[i - len]? = some rest[i - len] := by simp [show i - len < rest.length by omega]
          have := r2 (i - len) (i - len) _ (List.getElem?_range (by omega)) q
          simp only [Option.bind_eq_some_iff] at this
          obtain ⟨c, h1, h2⟩ := this
          rw [show len + (i - len) = i by omega] at h1
          exact ⟨c, _, h1, h2⟩
      by_cases hl0 : len = 0
      · subst hl0
        exact ⟨[.lst (P.cellsOf e) [] false], rfl, .one rfl (.lst0 (fun h => by cases h)), .lst ht (by simp) (by simp) (by simp)⟩
      · -- the elements
        have hcap : 0 < cap := by omega
        obtain ⟨c0, x0, g0, _⟩ := elem 0 hcap
        obtain ⟨_, gl, gj⟩ := cells_get g0
        have g00 := gj 0 (by omega)
        have : c0[0]? = some c0[0] := by simp [show 0 < c0.length by omega]
        rw [this] at g00
        have ha0 : (a.add (0 * P.cellsOf e)).add 0 = a := by simp [Addr.add]
        rw [ha0] at g00
        obtain ⟨hsp, c, ty, fz, hb, _⟩ := cell_form g00
        obtain ⟨b, off, sp⟩ := a
        simp only at hsp hb; subst hsp
        have addr : ∀ i j, ((⟨b, off, none⟩ : Addr).add (i * P.cellsOf e)).add j = ⟨b, off + i * P.cellsOf e + j, none⟩ := fun i j => by rw [add_at, add_at]
        -- each element's cells lie in the block
        have cellAt : ∀ i, i < cap → ∀ cs', w.cells? 0 ((⟨b, off, none⟩ : Addr).add (i * P.cellsOf e)) (P.cellsOf e) = some cs' → cs'.length = P.cellsOf e ∧ ∀ j, j < P.cellsOf e → c[off + i * P.cellsOf e + j]? = cs'[j]? := by
          intro i _ cs' h'
          obtain ⟨_, k1, k2⟩ := cells_get h'
          refine ⟨k1, fun j hj => ?_⟩
          have := k2 j hj
          rw [addr, cell_at hb] at this
          exact this
        have hsize : off + cap * P.cellsOf e ≤ c.size := by
          obtain ⟨cs', _, h1, _⟩ := elem (cap - 1) (by omega)
          obtain ⟨k1, k2⟩ := cellAt (cap - 1) (by omega) cs' h1
          have := k2 (P.cellsOf e - 1) (by omega)
          have q : cs'[P.cellsOf e - 1]? = some cs'[P.cellsOf e - 1] := by simp [show P.cellsOf e - 1 < cs'.length by omega]
          rw [q] at this
          have := (Array.getElem?_eq_some_iff.1 this).1
          have e3 : cap * P.cellsOf e = (cap - 1) * P.cellsOf e + P.cellsOf e := by
            conv => lhs; rw [show cap = (cap - 1) + 1 by omega, Nat.add_mul, Nat.one_mul]
          omega
        have ex : ∀ i, ∃ xs : List DV, i < cap → xs.length = P.cellsOf e ∧ Ty P e xs ∧ (∀ y ∈ xs, y.scal = true) ∧ ∀ (j : Nat) (y : DV) (v : Value), xs[j]? = some y → c[off + i * P.cellsOf e + j]? = some v → DR (κ0 w) w.heap y v := by
          intro i
          by_cases hi : i < cap
          · obtain ⟨cs', x', h1, h2⟩ := elem i hi
            obtain ⟨xs, hx1, hx2, hx3⟩ := ih cs' x' h2
            obtain ⟨k1, k2⟩ := cellAt i hi cs' h1
            refine ⟨xs, fun _ => ⟨hx1, hx3, hx2.2.1, fun j y v hy hv => ?_⟩⟩
            have hj : j < P.cellsOf e := by have := (List.getElem?_eq_some_iff.1 hy).1; omega
            rw [k2 j hj] at hv
            exact hx2.2.2 j y v hy hv
          · exact ⟨[], fun h => absurd h hi⟩
        obtain ⟨F, hF⟩ := Classical.axiomOfChoice ex
        have hcells : ∀ i, i < cap → (elOf (isAggT P e) (F i)).cells = F i := fun i hi => elOf_cells (hF i hi).2.2.1 (by rcases hagg with h | h; exact .inl h; exact .inr (by rw [(hF i hi).1, h]))
        have mem : ∀ x ∈ (List.range len).map (fun i => elOf (isAggT P e) (F i)), ∃ i, i < len ∧ x = elOf (isAggT P e) (F i) := by
          intro x hx
          obtain ⟨i, hi, rfl⟩ := List.mem_map.1 hx
          exact ⟨i, by simpa using hi, rfl⟩
        have hlen : ((List.range len).map (fun i => elOf (isAggT P e) (F i))).length = len := by simp
        refine ⟨[.lst (P.cellsOf e) ((List.range len).map (fun i => elOf (isAggT P e) (F i))) false], rfl, .one rfl ?_, .lst ht (by rw [hlen]; omega) (fun x hx => ?_) (fun x hx => ?_)⟩
        · have := DR.lst (κ := κ0 w) (h := w.heap) (sz := P.cellsOf e) (els := (List.range len).map (fun i => elOf (isAggT P e) (F i))) (full := false) (b := b) (off := off) (cap := cap) (c := c) (ty := ty) (fz := fz)
            (by simp [κ0, lt_heap hb]) hb (fun h => by cases h) (by rw [hlen]; omega) hsize (fun x hx => by
              obtain ⟨i, hi, rfl⟩ := mem x hx
              rw [hcells i (by omega)]
              exact ⟨(hF i (by omega)).1, (hF i (by omega)).2.2.1⟩) (fun i x j y v hx hy hv => by
              have hi : i < len := by have := (List.getElem?_eq_some_iff.1 hx).1; rw [hlen] at this; exact this
              simp [hi] at hx; subst hx
              rw [hcells i (by omega)] at hy
              exact (hF i (by omega)).2.2.2 j y v hy hv)
          rw [hlen] at this; exact this
        · obtain ⟨i, hi, rfl⟩ := mem x hx
          rw [hcells i (by omega)]
          exact ⟨rfl, (hF i (by omega)).1⟩
        · obtain ⟨i, hi, rfl⟩ := mem x hx
          rw [hcells i (by omega)]
          exact (hF i (by omega)).2.1
    · cases h

theorem trod_fields {ok : TypeId → Bool} {g : TypeId → List Value → Option (DataW H × List MemPlace)}
    (ih : ∀ t, ok t = true → ∀ cs x, g t cs = some x → ∃ xs, xs.length = P.cellsOf t ∧ DRs (κ0 w) w.heap xs cs ∧ Ty P t xs) :
    ∀ (fs : List Field) (k z : Nat) (cs : List Value), okFs P ok k fs z = true → cs.length = z → k ≤ z → (∀ f ∈ fs, ∃ x, g f.type ((cs.drop f.offset).take (P.cellsOf f.type)) = some x) →
    ∃ xs, k + xs.length = z ∧ DRs (κ0 w) w.heap xs (cs.drop k) ∧ ∀ f ∈ fs, k ≤ f.offset ∧ Ty P f.type ((xs.drop (f.offset - k)).take (P.cellsOf f.type))
  | [], k, z, cs, h, hl, _, _ => by
    have := nbE h
    subst this
    refine ⟨[], by simp, ?_, by simp⟩
    rw [List.drop_of_length_le (by omega)]
    exact ⟨rfl, by simp, by simp⟩
  | f :: fs, k, z, cs, h, hl, hk, hg => by
    simp only [okFs, Bool.and_eq_true] at h
    have hoff := nbE h.1.1
    obtain ⟨x, hx⟩ := hg f (by simp)
    obtain ⟨ys, y1, y2, y3⟩ := ih f.type h.1.2 _ _ hx
    rw [hoff] at y2
    have hlen : k + P.cellsOf f.type ≤ z := by
      have := y2.1
      simp at this
      omega
    obtain ⟨xs, x1, x2, x3⟩ := trod_fields ih fs (k + P.cellsOf f.type) z cs h.2 hl hlen (fun q hq => hg q (by simp [hq]))
    refine ⟨ys ++ xs, by simp; omega, ?_, fun q hq => ?_⟩
    · have := y2.append x2
      rw [← List.drop_drop, List.take_append_drop] at this
      exact this
    · rcases List.mem_cons.1 hq with rfl | hq
      · refine ⟨by omega, ?_⟩
        rw [show q.offset - k = 0 by omega, List.drop_zero, List.take_left' y1]
        exact y3
      · obtain ⟨q1, q2⟩ := x3 q hq
        refine ⟨by omega, ?_⟩
        rw [show q.offset - k = ys.length + (q.offset - (k + P.cellsOf f.type)) by omega, List.drop_append]
        rw [List.drop_of_length_le (by omega), List.nil_append, show ys.length + (q.offset - (k + P.cellsOf f.type)) - ys.length = q.offset - (k + P.cellsOf f.type) by omega]
        exact q2

theorem trod_Ty : ∀ (n : Nat) (t : TypeId), okT P n t = true → ∀ (fuel : Nat) (cs : List Value) (x : DataW H × List MemPlace), DataW.trod enc P w 0 (fun _ => true) true fuel t cs = some x →
    ∃ xs, xs.length = P.cellsOf t ∧ DRs (κ0 w) w.heap xs cs ∧ Ty P t xs
  | 0, _, h => by simp [okT] at h
  | n + 1, t, h => by
    intro fuel cs x hx
    simp only [okT] at h
    split at h
    · rename_i ht
      obtain ⟨b, rfl, _⟩ := DataW.trod_bool ht hx
      exact ⟨[.bool b], (nbE h).symm, .one rfl (.bool b), .bool ht b⟩
    · rename_i k ht
      obtain ⟨i, rfl, _, hw⟩ := DataW.trod_int ht hx
      exact ⟨[.int k i], (nbE h).symm, .one rfl (.int k i), .int ht hw⟩
    · rename_i ht
      obtain ⟨s, rfl, _, hs⟩ := DataW.trod_string ht hx
      refine ⟨[.str s.data.toList], (nbE h).symm, .one rfl ?_, .str ht (by simpa using hs)⟩
      exact .str s.data.toList
    · rename_i e ht
      simp only [Bool.and_eq_true, Bool.or_eq_true] at h
      cases fuel with
      | zero => simp [DataW.trod] at hx
      | succ fuel =>
        obtain ⟨xs, h1, h2⟩ := trod_slice ht (Nat.le_of_ble_eq_true h.1.1.2) (h.1.2.imp id nbE) (fun cs x hx => trod_Ty n e h.2 fuel cs x hx) hx
        exact ⟨xs, by rw [h1, nbE h.1.1.1], h2⟩
    · rename_i fs ht
      obtain ⟨xs, m, rfl, _, hl, hsz, hi⟩ := DataW.trod_struct ht hx
      obtain ⟨ys, y1, y2, y3⟩ := trod_fields (g := fun t cs => DataW.trod enc P w 0 (fun _ => true) true m t cs) (ok := okT P n) (fun t ht cs x hx => trod_Ty n t ht m cs x hx) fs.toList 0 (P.cellsOf t) cs h hl (by omega) (fun f hf => by
        obtain ⟨i, hi'⟩ := List.mem_iff_getElem?.1 hf
        have q := hi i f (by simpa using hi')
        have hlt : i < fs.size := by have := (List.getElem?_eq_some_iff.1 hi').1; simpa using this
        have : xs[i]? = some xs[i] := by simp [show i < xs.length by omega]
        rw [this] at q
        exact ⟨_, q⟩)
      refine ⟨ys, by omega, by simpa using y2, .struct ht (by omega) (fun f hf => ?_)⟩
      have := (y3 f (by simpa using hf)).2
      simpa using this
    · cases h

/-- A value of a type as one datum. -/
theorem Trod_Ty {n : Nat} {t : TypeId} (hok : okT P n t = true) {v : Value} {d : DataW H} {ps : List MemPlace}
    (hv : isAggT P t = true → ∃ cs, v = .agg cs) (hv1 : isAggT P t = false → ∀ cs, v ≠ .agg cs) (h : DataW.Trod enc P w 0 (fun _ => true) true t v d ps) :
    ∃ xs, DR (κ0 w) w.heap (elOf (isAggT P t) xs) v ∧ Ty P t xs := by
  obtain ⟨fuel, h⟩ := h
  obtain ⟨xs, h1, h2, h3⟩ := trod_Ty n t hok fuel _ _ h
  refine ⟨xs, ?_, h3⟩
  cases ha : isAggT P t with
  | true =>
    obtain ⟨cs, rfl⟩ := hv ha
    show DR _ _ (.agg xs) _
    refine .agg ?_ h2.2.1 (fun i x v hx hv => h2.2.2 i x v hx (by simpa [Value.cells] using hv))
    have := h2.1; simp [Value.cells] at this; omega
  | false =>
    have hc : v.cells.toList = [v] := by
      have := hv1 ha
      cases v <;> first | rfl | exact absurd rfl (this _)
    rw [hc] at h2
    have hl : xs.length = 1 := h2.1
    match xs, hl with
    | [x], _ => exact h2.2.2 0 x v rfl rfl

theorem okWide_form {n : Nat} {t : TypeId} (hok : okT P n t = true) {W : World} {base : Nat} {v : Value} (h : Value.okWide P W .any base t v) :
    (isAggT P t = true → ∃ cs, v = .agg cs) ∧ (isAggT P t = false → ∀ cs, v ≠ .agg cs) := by
  cases n with
  | zero => simp [okT] at hok
  | succ n =>
    simp only [okT] at hok
    unfold Value.okWide at h
    split at hok <;> rename_i ht
    all_goals first | (cases hok; done) | skip
    all_goals (rw [ht] at h; simp only at h)
    all_goals first
      | (refine ⟨fun ha => by simp [isAggT, ht] at ha, fun _ cs e => ?_⟩; subst e; simp [Cell.okWide, Cell.ok, ht] at h; done)
      | (obtain ⟨cs, rfl, _⟩ := h; exact ⟨fun _ => ⟨cs, rfl⟩, fun ha => by simp [isAggT, ht] at ha⟩)

theorem sameAt_of {W W' : World} (hh : ∀ b, b < W.heap.size → W'.heap[b]? = W.heap[b]?) {p : MemPlace} (hp : p.block < W.heap.size) : W.sameAt W' p := by
  cases p with
  | cell b off => simp only [World.sameAt, World.cell?]; rw [hh b hp]
  | map b => exact hh b hp

theorem keptBut_of {W W' : World} (hh : ∀ b, b < W.heap.size → W'.heap[b]? = W.heap[b]?) (h1 : W'.os = W.os) (h2 : W'.output = W.output) (may : MemPlace → Prop) : W.keptBut W' may := by
  refine ⟨h1, h2, fun i hi => ?_⟩
  rw [hh i hi]
  cases W.heap[i]? with
  | none => rfl
  | some o => cases o <;> first | exact ⟨rfl, rfl, rfl, fun _ _ => rfl⟩ | exact .inr ⟨rfl, rfl⟩ | rfl

theorem trodAll_stays {W W' : World} (hl : laidOutB P = true) (hh : ∀ b, b < W.heap.size → W'.heap[b]? = W.heap[b]?) {sp : Nat → Bool} (hsp : ∀ b, b < W.heap.size → sp b = true) : ∀ {ts : List TypeId} {vs : List Value} {ds : List (DataW H)} {ps : List MemPlace},
    (∀ t ∈ ts, P.readableRec t = true ∧ t < P.types.size) → (∀ p ∈ ps, p.block < W.heap.size) → DataW.TrodAll enc P W 0 (fun _ => true) true ts vs ds ps → DataW.TrodAll enc P W' 0 sp true ts vs ds ps
  | [], [], [], _, _, _, h => h
  | t :: ts, v :: vs, d :: ds, ps, hr, hp, h => by
    obtain ⟨p, q, h1, h2, rfl⟩ := h
    refine ⟨p, q, WideElems.Trod_stays hl (hr t (by simp)).1 (hr t (by simp)).2 h1 (fun x hx => sameAt_of hh (hp x (by simp [hx]))) (fun x hx => hsp _ (hp x (by simp [hx]))), ?_, rfl⟩
    exact trodAll_stays hl hh hsp (fun t ht => hr t (by simp [ht])) (fun x hx => hp x (by simp [hx])) h2

/-- The arguments of a law, each as the data of its type. -/
def Tys (P : Program) : List TypeId → List (List DV) → Prop
  | [], [] => True
  | t :: ts, x :: xs => Ty P t x ∧ Tys P ts xs
  | _, _ => False
def argsOf (P : Program) : List TypeId → List (List DV) → List DV
  | t :: ts, x :: xs => elOf (isAggT P t) x :: argsOf P ts xs
  | _, _ => []

theorem trodAll_Tys {W : World} {n base : Nat} : ∀ {ts : List TypeId} {vs : List Value} {ds : List (DataW H)} {ps : List MemPlace}, (∀ t ∈ ts, okT P n t = true) →
    (∀ (j : Nat) t v, ts[j]? = some t → vs[j]? = some v → Value.okWide P W .any base t v) → DataW.TrodAll enc P W 0 (fun _ => true) true ts vs ds ps →
    ∃ xss, Tys P ts xss ∧ ds.length = ts.length ∧ vs.length = (argsOf P ts xss).length ∧ ∀ (i : Nat) (x : DV) (v : Value), (argsOf P ts xss)[i]? = some x → vs[i]? = some v → DR (κ0 W) W.heap x v
  | [], [], [], _, _, _, _ => ⟨[], trivial, rfl, rfl, by simp [argsOf]⟩
  | t :: ts, v :: vs, d :: ds, ps, hok, hval, h => by
    obtain ⟨p, q, h1, h2, rfl⟩ := h
    obtain ⟨f1, f2⟩ := okWide_form (hok t (by simp)) (hval 0 t v rfl rfl)
    obtain ⟨xs, x1, x2⟩ := Trod_Ty (hok t (by simp)) f1 f2 h1
    obtain ⟨xss, y1, y2, y3, y4⟩ := trodAll_Tys (fun t ht => hok t (by simp [ht])) (fun j t v ht hv => hval (j + 1) t v (by simpa using ht) (by simpa using hv)) h2
    refine ⟨xs :: xss, ⟨x2, y1⟩, by simp [y2], by simp [argsOf, y3], fun i x u hx hu => ?_⟩
    cases i with
    | zero => simp [argsOf] at hx hu; subst hx; subst hu; exact x1
    | succ i => exact y4 i x u (by simpa [argsOf] using hx) (by simpa using hu)

/-- A law's step: the contract of the abstract machine gives what the row asks. -/
theorem law_post {f : FuncId} {fn : Func} {s : ChangeSpec} {apart fresh handsOn : Bool} {tb : TypeId} (n : Nat) (hl : laidOutB P = true) (hvars : s.vars = [])
    (hres : fn.resultTypes = #[tb]) (htb : P.underlying tb = some .bool) (hread : ∀ t ∈ fn.params.toList, P.readableRec t = true ∧ t < P.types.size) (hok : ∀ t ∈ fn.params.toList, okT P n t = true)
    (hs : ∀ ds : List (DataW H), ds.length = fn.params.size → s.fn H ds = { results := [.lit (.bool true)], args := ds })
    (hC : ∀ xss, Tys P fn.params.toList xss → C P f ((argsOf P fn.params.toList xss).map .d) [] (fun r o => r = .d (.bool true) ∧ o = []))
    (W : World) (base : Nat) (args : Array Value) (ds gs : List (DataW H)) (before : List MemPlace)
    (hval : ∀ (j : Nat) t v, fn.params[j]? = some t → args[j]? = some v → Value.okWide P W .any base t v)
    (hW : DataW.Whole enc P fn.params.toList s.vars apart W args.toList ds gs before) :
    Calls P f args W fun e W' => ∃ v, e = .returned v ∧ s.post enc P fn apart fresh handsOn false W args v W' := by
  have hW' := hW
  obtain ⟨p, q, hA, hV, hb, hfz, hnd⟩ := hW
  rw [hvars] at hV
  obtain ⟨rfl, rfl⟩ := trodVars_none hV
  obtain ⟨xss, y1, y2, y3, y4⟩ := trodAll_Tys (n := n) (base := base) hok (fun j t v ht hv => hval j t v (by simpa using ht) (by simpa using hv)) hA
  have hlt : ∀ x ∈ p, x.block < W.heap.size := fun x hx => DataW.TrodAll.lt hA x hx
  refine (hC xss y1 (κ0 W) (fun _ => .un) W args (fun i => by rw [tabNil]; rfl) (fun b hb => by
    by_cases h : b < W.heap.size
    · exact h
    · simp [κ0, h] at hb) (by simpa using y3) (fun i x v hx hv => ?_)).mono ?_
  · simp only [List.getElem?_map, Option.map_eq_some_iff] at hx
    obtain ⟨y, hy, rfl⟩ := hx
    exact .d (y4 i y v hy (by simpa using hv))
  · rintro e W' ⟨v, r, o, κ', φ', rfl, ⟨rfl, rfl⟩, hr, _, _, _, F, _⟩
    have hh : ∀ b, b < W.heap.size → W'.heap[b]? = W.heap[b]? := fun b hb => (F.imm b (by simp [κ0, hb])).2
    have hv : v = .bool true := by cases hr with | d h => cases h; rfl
    subst hv
    have hds : s.fn H (ds ++ []) = { results := [.lit (.bool true)], args := ds } := by rw [List.append_nil]; exact hs ds (by rw [y2]; simp)
    refine ⟨_, rfl, ds, [], before, [], p, [], hW', ?_, ?_, ?_, keptBut_of hh F.os F.out _, fun h => by cases h⟩
    · rw [hds, hres]
      exact trodAll_cons_mk (shut_bool htb _) trodAll_mk0
    · rw [hds]
      exact trodAll_stays hl hh (fun b hb => by simpa using hb) hread hlt hA
    · rw [hds, hvars]; rfl
end


theorem Ty.int_inv {t : TypeId} {k : IntKind} {xs : List DV} (hu : P.underlying t = some (.int k)) (h : Ty P t xs) : ∃ n, xs = [.int k n] ∧ (Lit.int k n).wf = true := by
  cases h with
  | int h hw => rw [hu] at h; injection h with h; injection h with h; subst h; exact ⟨_, rfl, hw⟩
  | bool h => rw [hu] at h; cases h
  | str h => rw [hu] at h; cases h
  | lst h => rw [hu] at h; cases h
  | struct h => rw [hu] at h; cases h
theorem Ty.str_inv {t : TypeId} {xs : List DV} (hu : P.underlying t = some .string) (h : Ty P t xs) : ∃ s, xs = [.str s] ∧ s.length ≤ maxLen := by
  cases h with
  | str h hs => exact ⟨_, rfl, hs⟩
  | bool h => rw [hu] at h; cases h
  | int h => rw [hu] at h; cases h
  | lst h => rw [hu] at h; cases h
  | struct h => rw [hu] at h; cases h
theorem Ty.lst_inv {t e : TypeId} {xs : List DV} (hu : P.underlying t = some (.slice e)) (h : Ty P t xs) :
    ∃ els, xs = [.lst (P.cellsOf e) els false] ∧ els.length ≤ maxLen ∧ ∀ x ∈ els, x = elOf (isAggT P e) x.cells ∧ x.cells.length = P.cellsOf e ∧ Ty P e x.cells := by
  cases h with
  | lst h hn hx he => rw [hu] at h; injection h with h; injection h with h; subst h; exact ⟨_, rfl, hn, fun x q => ⟨(hx x q).1, (hx x q).2, he x q⟩⟩
  | bool h => rw [hu] at h; cases h
  | int h => rw [hu] at h; cases h
  | str h => rw [hu] at h; cases h
  | struct h => rw [hu] at h; cases h
theorem Ty.struct_inv {t : TypeId} {fs : Array Field} {xs : List DV} (hu : P.underlying t = some (.struct fs)) (h : Ty P t xs) :
    xs.length = P.cellsOf t ∧ ∀ (i : Nat) (f : Field), fs[i]? = some f → Ty P f.type ((xs.drop f.offset).take (P.cellsOf f.type)) := by
  cases h with
  | struct h hl hf => rw [hu] at h; injection h with h; injection h with h; subst h; exact ⟨hl, fun i f q => hf f (Array.mem_of_getElem? q)⟩
  | bool h => rw [hu] at h; cases h
  | int h => rw [hu] at h; cases h
  | str h => rw [hu] at h; cases h
  | lst h => rw [hu] at h; cases h
end Go.Am
