/-
  Texts that the claim leans on, one behind the other: AmEff3, AmEff4, AmDrive, AmEntry, AmUse, AmBridge, AmKon, AmVt, AmVm, AmVe, AmVs.
-/
import Derived.Test.YtadndmmhpkmjeaaGreatDoorAmC
import Derived.Below
import Derived.Laws.AppendOwn

/-
  The abstract machine: regions that draw their order, whose operations change objects: any order gives what the region's own order gives.
-/
namespace Go.Am
set_option linter.unusedSectionVars false
variable {P : Program} [Gl]

def usesO (o : Oper) : Bool := match o.op with
  | .move _ => false
  | .assign _ => false
  | .pick _ _ _ => false
  | .build _ _ => false
  | .nilCheck _ => false
  | .unOp _ _ _ => false
  | .fieldAddr _ _ _ => false
  | .field _ _ _ => false
  | .index _ _ _ => false
  | .extract _ _ => false
  | _ => true

/-- The objects that an operation looks at (slices by reference: a load looks at one object alone; a call at all that it can reach). -/
def foot (R : Nat → RV) (O : Tab) (o : Oper) : List Nat := match o.op with
  | .call c => match c.callee with
    | .builtin _ => c.args.toList.flatMap fun x => (rvOf R x).refs 6
    | _ => reach O 400 (o.op.operands.toList.flatMap fun x => (rvOf R x).refs 6) []
  | .store _ x _ => (rvOf R x).refs 6
  | .box _ _ => []
  | .alloc _ => []
  | .buildSlice _ _ _ => []
  | .makeFunc _ _ _ => []
  | .indexAddr _ _ _ => []
  | _ => bif usesO o then o.op.operands.toList.flatMap fun x => (rvOf R x).refs 6 else []
def restr (F : List Nat) (O : Tab) : Tab := fun i => bif F.any (fun j => Nat.beq j i) then O i else none
def freshB (O : Tab) (F ks : List Nat) : Bool := ks.all fun i => F.any (fun j => Nat.beq j i) || (O i).isNone
def slotE (n z : Nat) (o : Oper) : Nat := match o.dst with
  | some d => z + 32 * d
  | none => z + 32 * n

def eVal (cf : Cfg) (ops : Array Oper) (ov : Ov) (R : Nat → RV) (O : Tab) (sl : Nat) (o : Oper) : Option (RV × List (Nat × PObj) × List Bool × List (RV × RV)) :=
  match guardOf R ops o with
  | none => none
  | some false => some (.und, [], [], [])
  | some true => match exOp cf R O sl o with
    | none => none
    | some (res, _) => match o.dst with
      | none => some (.bot, res.upd, res.conds, [])
      | some d => match findOv d ov with
        | none => some (res.val, res.upd, res.conds, [])
        | some v => some (v, res.upd, res.conds, [(res.val, v)])

theorem eVal_wp {κ : Kap} {φ : Phi} {w : World} {s : SSt} {a : Act} {cf : Cfg} (hcf : CfOk P cf) {ops : Array Oper} {ov : Ov} {o : Oper} {v : RV} {u : List (Nat × PObj)} {cs : List Bool} {es : List (RV × RV)} {sl : Nat} (F : FRel κ φ w s a)
    (h : eVal cf ops ov s.R s.O sl o = some (v, u, cs, es)) (hc : ∀ c ∈ cs, c = true) (he : ∀ e ∈ es, RVle e.1 e.2) {i : Nat} (hi : ops[i]? = some o)
    (hn : ∀ (j : Nat) (gg : Oper) (t : Nat), ops[j]? = some gg → gg.dst = some t → t < s.n) {Q : Exit → Act → World → Prop} {K : Act → World → Prop}
    (hk : ∀ a' w' κ' φ', FRel κ' φ' w' { s with R := setD s.R o.dst v, O := updO s.O u } a' → Fr κ w κ' w' → Kp φ s.O φ' (updO s.O u) → K a' w') : wpOp P ops Q i K a w := by
  unfold eVal at h
  unfold wpOp
  rw [hi]; simp only
  have hdst : ∀ d, o.dst = some d → d < s.n := fun d hd => hn i o d hi hd
  split at h
  · simp at h
  · rename_i hg
    rw [guard_wanted F hg (fun j want gg t _ hj ht => hn j gg t hj ht)]
    simp only [Bool.false_eq_true, if_false]
    injection h with h; injection h with h1 h2; injection h2 with h2 h3; subst h1; subst h2
    exact hk _ _ κ φ (F.setD hdst .und) (Fr.refl _ _) (Kp.refl _ _)
  · rename_i hg
    rw [guard_wanted F hg (fun j want gg t _ hj ht => hn j gg t hj ht)]
    simp only [if_true]
    left
    split at h
    · simp at h
    · rename_i res un hex
      have fin : ∀ rv, v = rv → u = res.upd → RVle res.val rv ∨ o.dst = none → (∀ c ∈ res.conds, c = true) → o.wp P a w K Q := by
        rintro rv rfl rfl hle hcc
        refine op_wp hcf F (sl := sl) hex hcc (fun u' w' κ' φ' g1 g2 g3 g4 => ?_)
        refine hk _ _ κ' φ' ?_ g3 g4
        rcases hle with hle | hle
        · exact FRel.setD (s := { s with O := updO s.O res.upd }) g1 hdst (hle _ _ _ _ _ g2)
        · rw [hle]
          exact FRel.putNone g1 u'
      split at h
      · rename_i hd
        injection h with h; injection h with h1 h2; injection h2 with h2 h3; injection h3 with h3 h4; subst h3
        exact fin v rfl h2.symm (.inr hd) hc
      · split at h
        · injection h with h; injection h with h1 h2; injection h2 with h2 h3; injection h3 with h3 h4; subst h3
          exact fin v rfl h2.symm (.inl (h1 ▸ fun _ _ _ _ _ r => r)) hc
        · rename_i vv hv
          injection h with h; injection h with h1 h2; injection h2 with h2 h3; injection h3 with h3 h4; subst h3; subst h4; subst h1
          exact fin _ rfl h2.symm (.inl (he (res.val, vv) (by simp))) hc

/-- The region gone through in its own order, each operation on what it looks at alone; what each touches and writes. -/
def runE (cf : Cfg) (ops : Array Oper) (ov : Ov) (n z : Nat) : List Oper → T RV → T PObj → List Bool → List (RV × RV) → List (List Nat × List Nat) → Option (T RV × T PObj × List Bool × List (RV × RV) × List (List Nat × List Nat))
  | [], t, ob, cs, es, rs => some (t, ob, cs, es, rs)
  | o :: r, t, ob, cs, es, rs =>
    match eVal cf ops ov (regOf t) (restr (foot (regOf t) ob.get o) ob.get) (slotE n z o) o with
    | none => none
    | some (v, u, c, e) =>
      bif smallU u && freshB ob.get (foot (regOf t) ob.get o) (slotE n z o :: (slotE n z o + 1) :: keysU u) then
        match o.dst with
        | none => runE cf ops ov n z r t (setAll ob u) (cs ++ c) (es ++ e) (rs ++ [(foot (regOf t) ob.get o ++ slotE n z o :: (slotE n z o + 1) :: keysU u, keysU u)])
        | some d => bif Nat.ble d 8000 then runE cf ops ov n z r (t.set d (some v)) (setAll ob u) (cs ++ c) (es ++ e) (rs ++ [(foot (regOf t) ob.get o ++ slotE n z o :: (slotE n z o + 1) :: keysU u, keysU u)]) else none
      else none

theorem runE_mono {cf : Cfg} {ops : Array Oper} {ov : Ov} {n z : Nat} : ∀ (l : List Oper) (t t' : T RV) (ob ob' : T PObj) (cs cs' : List Bool) (es es' : List (RV × RV)) (rs rs' : List (List Nat × List Nat)),
    runE cf ops ov n z l t ob cs es rs = some (t', ob', cs', es', rs') → (∀ c ∈ cs, c ∈ cs') ∧ (∀ e ∈ es, e ∈ es') ∧ (∀ d, (∀ o ∈ l, o.dst ≠ some d) → regOf t' d = regOf t d)
  | [], t, t', ob, ob', cs, cs', es, es', rs, rs', h => by
    simp [runE] at h; obtain ⟨rfl, rfl, rfl, rfl, rfl⟩ := h; exact ⟨fun _ h => h, fun _ h => h, fun _ _ => rfl⟩
  | o :: r, t, t', ob, ob', cs, cs', es, es', rs, rs', h => by
    simp only [runE] at h
    split at h
    · simp at h
    · rename_i v u c e h1
      cases hb0 : (smallU u && freshB ob.get (foot (regOf t) ob.get o) (slotE n z o :: (slotE n z o + 1) :: keysU u)) with
      | false => rw [hb0] at h; simp at h
      | true =>
        rw [hb0] at h; simp only [cond_true] at h
        cases hd : o.dst with
        | none =>
          rw [hd] at h; simp only at h
          obtain ⟨q1, q2, q3⟩ := runE_mono r _ _ _ _ _ _ _ _ _ _ h
          exact ⟨fun c hc => q1 c (by simp [hc]), fun e he => q2 e (by simp [he]), fun d hh => q3 d (fun o ho => hh o (by simp [ho]))⟩
        | some d0 =>
          rw [hd] at h; simp only at h
          cases hb : Nat.ble d0 8000 with
          | false => rw [hb] at h; simp at h
          | true =>
            rw [hb] at h; simp only [cond_true] at h
            obtain ⟨q1, q2, q3⟩ := runE_mono r _ _ _ _ _ _ _ _ _ _ h
            have hle := Nat.le_of_ble_eq_true hb
            refine ⟨fun c hc => q1 c (by simp [hc]), fun e he => q2 e (by simp [he]), fun d hh => ?_⟩
            rw [q3 d (fun o ho => hh o (by simp [ho])), regOf_set (by omega)]
            have : d ≠ d0 := fun e => hh o (by simp) (by rw [hd, e])
            simp [setR, this]

/-- What stands before each operation, and what it gives. -/
theorem runE_at {cf : Cfg} {ops : Array Oper} {ov : Ov} {n z : Nat} : ∀ (l : List Oper) (t t' : T RV) (ob ob' : T PObj) (cs cs' : List Bool) (es es' : List (RV × RV)) (rs rs' : List (List Nat × List Nat)),
    runE cf ops ov n z l t ob cs es rs = some (t', ob', cs', es', rs') →
    (∀ (i j : Nat) (p q : Oper) (d : Nat), l[i]? = some p → l[j]? = some q → p.dst = some d → q.dst = some d → i = j) →
    ∃ (us : List (List (Nat × PObj))) (rr : List (List Nat × List Nat)), us.length = l.length ∧ rs' = rs ++ rr ∧ rr.length = l.length ∧ ob'.get = us.foldl updO ob.get ∧
    ∀ (j : Nat) (o : Oper), l[j]? = some o → ∃ (R : Nat → RV) (F : List Nat) (v : RV) (u : List (Nat × PObj)) (c : List Bool) (e : List (RV × RV)),
      eVal cf ops ov R (restr F ((us.take j).foldl updO ob.get)) (slotE n z o) o = some (v, u, c, e) ∧ us[j]? = some u ∧ rr[j]? = some (F ++ slotE n z o :: (slotE n z o + 1) :: keysU u, keysU u) ∧
      freshB ((us.take j).foldl updO ob.get) F (slotE n z o :: (slotE n z o + 1) :: keysU u) = true ∧ (∀ x ∈ c, x ∈ cs') ∧ (∀ x ∈ e, x ∈ es') ∧
      (∀ d, o.dst = some d → regOf t' d = v) ∧ (∀ d, (∀ (i : Nat) (p : Oper), i < j → l[i]? = some p → p.dst ≠ some d) → R d = regOf t d) ∧
      (∀ (i : Nat) (p : Oper) (d : Nat), i < j → l[i]? = some p → p.dst = some d → R d = regOf t' d)
  | [], t, t', ob, ob', cs, cs', es, es', rs, rs', h, hnd => by
    simp [runE] at h; obtain ⟨rfl, rfl, rfl, rfl, rfl⟩ := h
    exact ⟨[], [], rfl, by simp, rfl, rfl, fun j o hj => by simp at hj⟩
  | o0 :: r, t, t', ob, ob', cs, cs', es, es', rs, rs', h, hnd => by
    simp only [runE] at h
    split at h
    · simp at h
    · rename_i v u c e h1
      cases hb0 : (smallU u && freshB ob.get (foot (regOf t) ob.get o0) (slotE n z o0 :: (slotE n z o0 + 1) :: keysU u)) with
      | false => rw [hb0] at h; simp at h
      | true =>
        rw [hb0] at h; simp only [cond_true] at h
        simp only [Bool.and_eq_true] at hb0
        have hset := setAll_get u ob hb0.1
        have hnd' : ∀ (i j : Nat) (p q : Oper) (d : Nat), r[i]? = some p → r[j]? = some q → p.dst = some d → q.dst = some d → i = j := fun i j p q d hi hj' hp hq => by
          have := hnd (i + 1) (j + 1) p q d (by simpa using hi) (by simpa using hj') hp hq; omega
        -- the table behind the first operation
        have tail : ∀ (t1 : T RV), runE cf ops ov n z r t1 (setAll ob u) (cs ++ c) (es ++ e) (rs ++ [(foot (regOf t) ob.get o0 ++ slotE n z o0 :: (slotE n z o0 + 1) :: keysU u, keysU u)]) = some (t', ob', cs', es', rs') →
            (∀ d, o0.dst ≠ some d → regOf t1 d = regOf t d) → (∀ d, o0.dst = some d → regOf t1 d = v) →
            ∃ (us : List (List (Nat × PObj))) (rr : List (List Nat × List Nat)), us.length = (o0 :: r).length ∧ rs' = rs ++ rr ∧ rr.length = (o0 :: r).length ∧ ob'.get = us.foldl updO ob.get ∧
            ∀ (j : Nat) (o : Oper), (o0 :: r)[j]? = some o → ∃ (R : Nat → RV) (F : List Nat) (v : RV) (u : List (Nat × PObj)) (c : List Bool) (e : List (RV × RV)),
              eVal cf ops ov R (restr F ((us.take j).foldl updO ob.get)) (slotE n z o) o = some (v, u, c, e) ∧ us[j]? = some u ∧ rr[j]? = some (F ++ slotE n z o :: (slotE n z o + 1) :: keysU u, keysU u) ∧
              freshB ((us.take j).foldl updO ob.get) F (slotE n z o :: (slotE n z o + 1) :: keysU u) = true ∧ (∀ x ∈ c, x ∈ cs') ∧ (∀ x ∈ e, x ∈ es') ∧
              (∀ d, o.dst = some d → regOf t' d = v) ∧ (∀ d, (∀ (i : Nat) (p : Oper), i < j → (o0 :: r)[i]? = some p → p.dst ≠ some d) → R d = regOf t d) ∧
              (∀ (i : Nat) (p : Oper) (d : Nat), i < j → (o0 :: r)[i]? = some p → p.dst = some d → R d = regOf t' d) := by
          intro t1 hr ht1 ht2
          obtain ⟨m1, m2, m3⟩ := runE_mono r _ _ _ _ _ _ _ _ _ _ hr
          obtain ⟨us, rr, a1, a2, a3, a4, a5⟩ := runE_at r t1 t' _ _ _ _ _ _ _ _ hr hnd'
          refine ⟨u :: us, (foot (regOf t) ob.get o0 ++ slotE n z o0 :: (slotE n z o0 + 1) :: keysU u, keysU u) :: rr, by simp [a1], by rw [a2]; simp, by simp [a3], by rw [a4, hset]; rfl, fun j o hj => ?_⟩
          cases j with
          | zero =>
            simp at hj; subst hj
            refine ⟨regOf t, foot (regOf t) ob.get o0, v, u, c, e, h1, rfl, rfl, hb0.2, fun x hx => m1 x (by simp [hx]), fun x hx => m2 x (by simp [hx]), fun d hd => ?_, fun d _ => rfl, fun i p d hi => by omega⟩
            rw [m3 d (fun q hq hqd => by
              obtain ⟨k, hk⟩ := List.mem_iff_getElem?.1 hq
              have := hnd 0 (k + 1) o0 q d rfl (by simpa using hk) hd hqd; omega)]
            exact ht2 d hd
          | succ j =>
            obtain ⟨R, F, v', u', c', e', k1, k2, k3, k4, k5, k6, k7, k8, k9⟩ := a5 j o (by simpa using hj)
            rw [hset] at k1 k4
            refine ⟨R, F, v', u', c', e', by simpa using k1, by simpa using k2, by simpa using k3, by simpa using k4, k5, k6, k7, fun d hd => ?_, fun i p d hi hp hpd => ?_⟩
            · rw [k8 d (fun i p hi hp => hd (i + 1) p (by omega) (by simpa using hp))]
              exact ht1 d (hd 0 o0 (by omega) rfl)
            · cases i with
              | zero =>
                simp at hp; subst hp
                rw [k8 d (fun i q hi hq hqd => by
                  have := hnd 0 (i + 1) o0 q d rfl (by simpa using hq) hpd hqd; omega)]
                rw [m3 d (fun q hq hqd => by
                  obtain ⟨k, hk⟩ := List.mem_iff_getElem?.1 hq
                  have := hnd 0 (k + 1) o0 q d rfl (by simpa using hk) hpd hqd; omega)]
              | succ i => exact k9 i p d (by omega) (by simpa using hp) hpd
        cases hd : o0.dst with
        | none =>
          rw [hd] at h; simp only at h
          exact tail t h (fun _ _ => rfl) (fun d hh => by rw [hd] at hh; cases hh)
        | some d0 =>
          rw [hd] at h; simp only at h
          cases hb : Nat.ble d0 8000 with
          | false => rw [hb] at h; simp at h
          | true =>
            rw [hb] at h; simp only [cond_true] at h
            have hle := Nat.le_of_ble_eq_true hb
            refine tail _ h (fun d hh => ?_) (fun d hh => ?_)
            · rw [regOf_set (by omega)]
              have : d ≠ d0 := fun e => hh (by rw [hd, e])
              simp [setR, this]
            · rw [regOf_set (by omega)]
              rw [hd] at hh; injection hh with hh; subst hh
              simp [setR]

end Go.Am

/-
  The abstract machine: regions that draw their order, whose operations change objects: the theorem.
-/
namespace Go.Am
set_option linter.unusedSectionVars false
variable {P : Program} [Gl]

def hits (a b : List Nat) : Bool := a.any fun i => b.any fun j => Nat.beq j i
theorem hits_of {a b : List Nat} {i : Nat} (h1 : i ∈ a) (h2 : i ∈ b) : hits a b = true :=
  List.any_eq_true.2 ⟨i, h1, List.any_eq_true.2 ⟨i, h2, nbT rfl⟩⟩

def rowsOk (rs : List (List Nat × List Nat)) (ms : List Nat) : Bool := rs.zipIdx.all fun (rj, j) => rs.zipIdx.all fun (rk, k) =>
  !(Nat.ble (k + 1) j) || (!(hits rk.2 rj.1) && !(hits rj.2 rk.1)) || bitB (ms.getD j 0) k

theorem rowsOk_spec {rs : List (List Nat × List Nat)} {ms : List Nat} (h : rowsOk rs ms = true) {j k : Nat} {rj rk : List Nat × List Nat} (hj : rs[j]? = some rj) (hk : rs[k]? = some rk) (hlt : k < j)
    (hh : hits rk.2 rj.1 = true ∨ hits rj.2 rk.1 = true) : (ms.getD j 0).testBit k = true := by
  have h1 := List.all_eq_true.1 h (rj, j) (by rw [List.mem_zipIdx_iff_getElem?]; exact hj)
  have h2 := List.all_eq_true.1 h1 (rk, k) (by rw [List.mem_zipIdx_iff_getElem?]; exact hk)
  simp only [Bool.or_eq_true, Bool.and_eq_true, Bool.not_eq_true'] at h2
  rw [← bitB_eq]
  rcases h2 with (h2 | h2) | h2
  · rw [Nat.ble_eq_true_of_le (by omega)] at h2; cases h2
  · rcases hh with hh | hh
    · rw [h2.1] at hh; cases hh
    · rw [h2.2] at hh; cases hh
  · exact h2

theorem restr_in {F : List Nat} {O : Tab} {i : Nat} (h : (F.any fun j => Nat.beq j i) = true) : restr F O i = O i := by simp [restr, h]
theorem restr_out {F : List Nat} {O : Tab} {i : Nat} (h : (F.any fun j => Nat.beq j i) = false) : restr F O i = none := by simp [restr, h]
theorem any_mem {F : List Nat} {i : Nat} (h : (F.any fun j => Nat.beq j i) = true) : i ∈ F := by
  obtain ⟨j, h1, h2⟩ := List.any_eq_true.1 h
  have := nbE h2; subst this; exact h1

theorem eVal_mono {cf : Cfg} {ops : Array Oper} {ov : Ov} {R R' : Nat → RV} {O O' : Tab} {sl : Nat} {o : Oper} {r : RV × List (Nat × PObj) × List Bool × List (RV × RV)} (h : eVal cf ops ov R O sl o = some r)
    (hg : guardOf R' ops o = guardOf R ops o) (hr : ∀ x ∈ o.op.operands, rvOf R x = rvOf R' x) (hO : Le O O') (hs : O' sl = O sl) (hs1 : O' (sl + 1) = O (sl + 1)) (hk : ∀ p ∈ r.2.1, O' p.1 = O p.1) : eVal cf ops ov R' O' sl o = some r := by
  unfold eVal at h ⊢
  rw [hg]
  split at h
  · cases h
  · exact h
  · split at h
    · cases h
    · rename_i res un hex
      have hu : r.2.1 = res.upd := by
        split at h
        · injection h with h; subst h; rfl
        · split at h <;> (injection h with h; subst h; rfl)
      rw [exOp_congr (R := R) (R' := R') hr] at hex
      rw [exOp_mono hO hs hs1 hex (fun p hp => hk p (by rw [hu]; exact hp))]
      exact h

theorem eff_any {cf : Cfg} (hcf : CfOk P cf) {ops : Array Oper} {ov : Ov} {s : SSt} {t t' : T RV} {ob ob' : T PObj} {cs : List Bool} {es : List (RV × RV)} {rs : List (List Nat × List Nat)} {z m : Nat} {κ : Kap} {φ : Phi} {w : World} {a : Act}
    (hq : quietOk ops = true) (hg : guardsOk s.n ops = true) (hs : s.R = regOf t) (hsO : s.O = ob.get) (hrun : runE cf ops ov s.n z ops.toList t ob [] [] [] = some (t', ob', cs, es, rs))
    (hrows : rowsOk rs (ancs ops.toList []) = true) (hc : ∀ c ∈ cs, c = true) (he : ∀ e ∈ es, RVle e.1 e.2) (F0 : FRel κ φ w s a) :
    wpAny P .any ops (fun e a' w' => e = .normal ∧ ∃ κ' φ', FRel κ' φ' w' { s with R := regOf t', O := ob'.get } a' ∧ Fr κ w κ' w' ∧ KpM m φ s.O φ' ob'.get) ops.size (Array.replicate ops.size false) a w := by
  have hnd : ∀ (i j : Nat) (p q : Oper) (d : Nat), ops.toList[i]? = some p → ops.toList[j]? = some q → p.dst = some d → q.dst = some d → i = j := by
    intro i j p q d hi hj hp hqd
    rcases ((quietOk_spec hq (j := j) (o := q) (by simpa using hj)).2 i p d (by simpa using hi) hp).1 with h | h
    · exact h
    · exact absurd hqd h
  obtain ⟨us, rr, ul, hrs, rl, hob, hat⟩ := runE_at ops.toList t t' ob ob' [] cs [] es [] rs hrun hnd
  rw [List.nil_append] at hrs
  subst hrs
  have hout := (runE_mono ops.toList t t' ob ob' [] cs [] es [] rs hrun).2.2
  have hul : us.length = ops.size := by simpa using ul
  have hanc := ancs_spec (ops := ops) ops.toList [] (fun i o hi => by simpa using hi) (fun i k h => by simp at h)
  have full : ∀ (L : Array Bool), L.size = ops.size → (∀ i, i < ops.size → L.getD i true = true) → mixR ops s.R (regOf t') L = regOf t' ∧ mixT (fun i => L.getD i false) 0 us s.O = ob'.get := by
    intro L hL hall
    have hall2 : ∀ i, i < ops.size → L.getD i false = true := fun i hi => by
      have hlt2 : i < L.size := by omega
      have := hall i hi
      simp [Array.getD, hlt2] at this ⊢; exact this
    constructor
    · funext d
      unfold mixR
      split
      · rfl
      · rename_i hne
        rw [hs, hout d (fun o ho hd => hne ?_)]
        obtain ⟨i, hi⟩ := List.mem_iff_getElem?.1 ho
        have hi' : ops[i]? = some o := by simpa using hi
        exact ⟨i, o, hi', hd, hall2 i (Array.getElem?_eq_some_iff.1 hi').1⟩
    · rw [hob, hsO]
      funext i
      have e1 := mixT_take us 0 us.length ob.get
      rw [List.take_length] at e1
      rw [← e1]
      refine mixT_agree us 0 _ _ rfl (fun j u hu _ => ?_)
      have hj := (List.getElem?_eq_some_iff.1 hu).1
      rw [Nat.zero_add, hall2 j (by omega)]
      simp [hj]
  have main : ∀ (fuel : Nat) (L : Array Bool) (κ1 : Kap) (φ1 : Phi) (w1 : World) (a1 : Act), L.size = ops.size → L.toList.countP (· == false) = fuel →
      (∀ (j : Nat) (o : Oper), ops[j]? = some o → L.getD j false = true → ∀ e ∈ o.after, Region.binds .any e = true → L.getD e.on false = true) →
      FRel κ1 φ1 w1 { s with R := mixR ops s.R (regOf t') L, O := mixT (fun i => L.getD i false) 0 us s.O } a1 →
      Fr κ w κ1 w1 → KpM m φ s.O φ1 (mixT (fun i => L.getD i false) 0 us s.O) →
      wpAny P .any ops (fun e a' w' => e = .normal ∧ ∃ κ' φ', FRel κ' φ' w' { s with R := regOf t', O := ob'.get } a' ∧ Fr κ w κ' w' ∧ KpM m φ s.O φ' ob'.get) fuel L a1 w1 := by
    intro fuel
    induction fuel with
    | zero =>
      intro L κ1 φ1 w1 a1 hL hcnt hcl F hR hK
      have hall := all_listed hcnt
      obtain ⟨f1, f2⟩ := full L hL (fun i hi => hall i (by omega))
      rw [f1, f2] at F
      rw [f2] at hK
      refine ⟨?_, rfl, κ1, φ1, F, hR, hK⟩
      cases hr : Region.ready .any ops L with
      | nil => rfl
      | cons i r =>
        obtain ⟨o, _, h1, h2, _⟩ := mem_ready (md := .any) (ops := ops) (L := L) (i := i) (by rw [hr]; simp)
        rw [hall i (by omega)] at h2; cases h2
    | succ fuel ih =>
      intro L κ1 φ1 w1 a1 hL hcnt hcl F hR hK
      refine ⟨fun hr => ?_, fun j hj => ?_⟩
      · have hall := ready_nil hL (fun j o ho => (quietOk_spec hq ho).1) hr
        obtain ⟨f1, f2⟩ := full L hL hall
        rw [f1, f2] at F
        rw [f2] at hK
        exact ⟨rfl, κ1, φ1, F, hR, hK⟩
      · obtain ⟨o, ho, hjn, hlj, hedges⟩ := mem_ready hj
        obtain ⟨R, Fj, v, u, c, e, k1, k2, k3, k4, kc, ke, k5, k6, k7⟩ := hat j o (by simpa using ho)
        obtain ⟨s1, s2⟩ := quietOk_spec hq ho
        have hljf : L.getD j false = false := by
          have : j < L.size := by omega
          simp [Array.getD, this] at hlj ⊢; exact hlj
        -- what it looks at is as it was in the region's own order
        have same : ∀ d, d ∈ looks o ops → mixR ops s.R (regOf t') L d = R d := by
          intro d hd
          by_cases hw : ∃ (i : Nat) (p : Oper), ops[i]? = some p ∧ p.dst = some d
          · obtain ⟨i, p, hi, hp⟩ := hw
            rcases (s2 i p d hi hp).2 hd with ⟨hij, ed, he1, he2, he3⟩ | ⟨hij, ed, he1, he2, he3⟩
            · have hli : L.getD i false = true := by rw [← he2]; exact hedges ed he1 he3
              unfold mixR
              rw [if_pos ⟨i, p, hi, hp, hli⟩]
              exact (k7 i p d hij (by simpa using hi) hp).symm
            · have only : ∀ (i' : Nat) (p' : Oper), ops[i']? = some p' → p'.dst = some d → i' = i := fun i' p' h1 h2 => hnd i' i p' p d (by simpa using h1) (by simpa using hi) h2 hp
              unfold mixR
              rw [if_neg (fun ⟨i', p', h1, h2, h3⟩ => by
                have e := only i' p' h1 h2
                subst e
                rw [h1] at hi; injection hi with hi; subst hi
                have := hcl i' p' h1 h3 ed he1 he3
                rw [he2, hljf] at this; cases this), hs]
              exact (k6 d (fun i' p' h0 h1 h2 => by have := only i' p' (by simpa using h1) h2; omega)).symm
          · unfold mixR
            rw [if_neg (fun ⟨i, p, hi, hp, _⟩ => hw ⟨i, p, hi, hp⟩), hs]
            exact (k6 d (fun i p _ hp hpd => hw ⟨i, p, by simpa using hp, hpd⟩)).symm
        have guardEq : guardOf (mixR ops s.R (regOf t') L) ops o = guardOf R ops o := by
          unfold guardOf
          cases hgu : o.guard with
          | none => rfl
          | some p =>
            obtain ⟨g, want⟩ := p
            simp only
            cases hog : ops[g]? with
            | none => rfl
            | some gg =>
              simp only
              cases hgd : gg.dst with
              | none => rfl
              | some d =>
                simp only
                rw [same d (by simp only [looks, List.mem_append]; right; rw [hgu]; simp only [hog, hgd]; simp)]
        have regEq : ∀ x ∈ o.op.operands, rvOf R x = rvOf (mixR ops s.R (regOf t') L) x := fun x hx => rvOf_congr fun d hd => by
          subst hd
          refine (same d ?_).symm
          simp only [looks, List.mem_append, List.mem_filterMap]
          left
          exact ⟨.tmp d, by simpa using hx, rfl⟩
        -- who writes what it touches is bound to it
        have rowAt : ∀ (x : Nat) (u' : List (Nat × PObj)), us[x]? = some u' → ∃ tx, rs[x]? = some (tx, keysU u') ∧ ∀ i ∈ keysU u', i ∈ tx := by
          intro x u' hu'
          have hx := (List.getElem?_eq_some_iff.1 hu').1
          have hox : ops.toList[x]? = some ops.toList[x] := by simp [show x < ops.size by omega]
          obtain ⟨_, F', _, u2, _, _, _, g2, g3, _⟩ := hat x _ hox
          rw [hu'] at g2; injection g2 with g2; subst g2
          exact ⟨_, g3, fun i hi => by simp [hi]⟩
        have before : ∀ (x : Nat) (u' : List (Nat × PObj)) (i : Nat), x < j → us[x]? = some u' → i ∈ keysU u' → i ∈ (Fj ++ slotE s.n z o :: (slotE s.n z o + 1) :: keysU u) → L.getD x false = true := by
          intro x u' i hxj hu' hi ht
          obtain ⟨tx, g1, _⟩ := rowAt x u' hu'
          exact (hanc j x (rowsOk_spec hrows k3 g1 hxj (.inl (hits_of hi ht)))).ready (L := fun i => L.getD i false) hcl (fun o' ho' e he hb => by
            rw [ho] at ho'; injection ho' with ho'; subst ho'; exact hedges e he hb)
        have after : ∀ (x : Nat) (u' : List (Nat × PObj)) (i : Nat), j < x → us[x]? = some u' → i ∈ keysU u' → i ∈ (Fj ++ slotE s.n z o :: (slotE s.n z o + 1) :: keysU u) → L.getD x false = false := by
          intro x u' i hxj hu' hi ht
          obtain ⟨tx, g1, _⟩ := rowAt x u' hu'
          cases hlx : L.getD x false with
          | false => rfl
          | true =>
            have := (hanc x j (rowsOk_spec hrows g1 k3 hxj (.inr (hits_of hi ht)))).done (L := fun i => L.getD i false) hcl hlx
            rw [hljf] at this; cases this
        have agree : ∀ i, i ∈ (Fj ++ slotE s.n z o :: (slotE s.n z o + 1) :: keysU u) → mixT (fun i => L.getD i false) 0 us s.O i = (us.take j).foldl updO ob.get i := by
          intro i hi
          have e1 := mixT_take us 0 j ob.get
          rw [← e1, hsO]
          refine mixT_agree us 0 _ _ rfl (fun x u' hu' hk => ?_)
          rw [Nat.zero_add, Nat.zero_add]
          rcases Nat.lt_trichotomy x j with h | h | h
          · rw [before x u' i h hu' hk hi]; simp [h]
          · subst h; rw [hljf]; simp
          · rw [after x u' i h hu' hk hi]
            have : ¬ x < j := by omega
            simp [this]
        have agreeR : ∀ i, i ∈ (slotE s.n z o :: (slotE s.n z o + 1) :: keysU u) → mixT (fun i => L.getD i false) 0 us s.O i = restr Fj ((us.take j).foldl updO ob.get) i := by
          intro i hi
          rw [agree i (List.mem_append.2 (.inr hi))]
          cases hF : (Fj.any fun j => Nat.beq j i) with
          | true => rw [restr_in hF]
          | false =>
            rw [restr_out hF]
            have := List.all_eq_true.1 k4 i hi
            rw [hF] at this
            simpa using this
        have hev : eVal cf ops ov (mixR ops s.R (regOf t') L) (mixT (fun i => L.getD i false) 0 us s.O) (slotE s.n z o) o = some (v, u, c, e) := by
          refine eVal_mono k1 guardEq regEq (fun i p hp => ?_) (agreeR _ (by simp)) (agreeR _ (by simp)) (fun p hp => agreeR _ (by simp [keysU]; exact .inr (.inr ⟨p.2, hp⟩)))
          cases hF : (Fj.any fun j => Nat.beq j i) with
          | true =>
            rw [restr_in hF] at hp
            rw [agree i (List.mem_append.2 (.inl (any_mem hF)))]; exact hp
          | false => rw [restr_out hF] at hp; cases hp
        refine eVal_wp hcf F hev (fun x hx => hc x (kc x hx)) (fun x hx => he x (ke x hx)) ho (guardsOk_spec hg) (fun a' w' κ' φ' g1 g2 g3 => ?_)
        have hget : ∀ i, (L.setIfInBounds j true).getD i false = if i = j then true else L.getD i false := by
          intro i
          simp only [Array.getD_eq_getD_getElem?, Array.getElem?_setIfInBounds]
          by_cases e : i = j
          · subst e; have : i < L.size := by omega
            simp [this]
          · have : ¬ j = i := fun h => e h.symm
            simp [e, this]
        have hset : setD (mixR ops s.R (regOf t') L) o.dst v = mixR ops s.R (regOf t') (L.setIfInBounds j true) := by
          funext d
          cases hd : o.dst with
          | none =>
            simp only [setD]
            unfold mixR
            congr 1
            apply propext
            constructor
            · rintro ⟨i, p, h1, h2, h3⟩
              exact ⟨i, p, h1, h2, by rw [hget]; split; rfl; exact h3⟩
            · rintro ⟨i, p, h1, h2, h3⟩
              rw [hget] at h3
              by_cases e : i = j
              · subst e; rw [ho] at h1; injection h1 with h1; subst h1; rw [hd] at h2; cases h2
              · rw [if_neg e] at h3; exact ⟨i, p, h1, h2, h3⟩
          | some d0 =>
            simp only [setD, setR]
            by_cases e0 : d = d0
            · subst e0
              rw [if_pos rfl]
              unfold mixR
              rw [if_pos ⟨j, o, ho, hd, by rw [hget]; simp⟩, k5 d hd]
            · rw [if_neg e0]
              unfold mixR
              congr 1
              apply propext
              constructor
              · rintro ⟨i, p, h1, h2, h3⟩
                exact ⟨i, p, h1, h2, by rw [hget]; split; rfl; exact h3⟩
              · rintro ⟨i, p, h1, h2, h3⟩
                rw [hget] at h3
                by_cases e : i = j
                · subst e; rw [ho] at h1; injection h1 with h1; subst h1; rw [hd] at h2; injection h2 with h2; exact absurd h2.symm e0
                · rw [if_neg e] at h3; exact ⟨i, p, h1, h2, h3⟩
        have hmix : mixT (fun i => (L.setIfInBounds j true).getD i false) 0 us s.O = updO (mixT (fun i => L.getD i false) 0 us s.O) u := by
          refine mixT_insert us 0 j u s.O k2 (by rw [Nat.zero_add]; exact hljf) (by rw [Nat.zero_add, hget]; simp) (fun x hx => by rw [hget, if_neg (by omega)]) (fun x u' hx hu' hl i hi hi' => ?_)
          rw [Nat.zero_add] at hl
          rw [after x u' i hx hu' hi' (by simp [hi])] at hl; cases hl
        have hc2 := count_set (L := L) (i := j) (by omega) hlj
        refine ih (L.setIfInBounds j true) κ' φ' w' a' (by simpa using hL) (by omega) (fun i o' ho' hi e' he' hb' => ?_) ?_ (hR.trans g2) ?_
        · rw [hget] at hi ⊢
          by_cases ej : e'.on = j
          · rw [if_pos ej]
          · rw [if_neg ej]
            by_cases ei : i = j
            · subst ei; rw [ho] at ho'; injection ho' with ho'; subst ho'; exact hedges e' he' hb'
            · rw [if_neg ei] at hi; exact hcl i o' ho' hi e' he' hb'
        · rw [← hset, hmix]; exact g1
        · rw [hmix]; exact hK.trans (g3.m m)
  have e0 : ∀ i, (Array.replicate ops.size false).getD i false = false := fun i => by
    by_cases hi : i < ops.size <;> simp [Array.getD, hi]
  have m0 : mixT (fun i => (Array.replicate ops.size false).getD i false) 0 us s.O = s.O := mixT_none us 0 s.O (fun j _ => e0 _)
  have r0 : mixR ops s.R (regOf t') (Array.replicate ops.size false) = s.R := by
    funext d
    unfold mixR
    rw [if_neg]
    rintro ⟨i, o, _, _, h3⟩
    rw [e0] at h3; cases h3
  refine main ops.size (Array.replicate ops.size false) κ φ w a (by simp) (by simp [List.countP_replicate]) (fun j o _ hj => by rw [e0] at hj; cases hj) ?_ (Fr.refl _ _) ?_
  · rw [m0, r0]; exact F0
  · rw [m0]; exact KpM.refl _ _ _

end Go.Am

/-
  The abstract machine: the driver of straight code; states of which less is said; contracts out of runs.
-/
namespace Go.Am
set_option linter.unusedSectionVars false
variable {P : Program} [Gl]

def findZ (ob : T PObj) (ops : Array Oper) (n step : Nat) : Nat → Nat → Nat
  | 0, z => z
  | f + 1, z => bif ops.toList.all fun o => free8 ob (slotE n z o) then z else findZ ob ops n step f (z + step)

def stepRegion (cf : Cfg) (ov : Ov) (ops : Array Oper) (draw : Bool) (ac : Acc) : Option Acc :=
  bif guardsOk ac.st.n ops then
    bif draw then
      bif quietOk ops then
        match runQ cf ops ov ac.st.objs.get ops.toList ac.st.regs [] [] with
        | some (t, cs, es) => some { st := { ac.st with regs := t }, cs := ac.cs ++ cs, es := ac.es ++ es }
        | none => match runE cf ops ov ac.st.n (findZ ac.st.objs ops ac.st.n (32 * (ac.st.n + 1)) 400 64) ops.toList ac.st.regs ac.st.objs [] [] [] with
          | some (t, ob, cs, es, rs) => bif rowsOk rs (ancs ops.toList []) then some { st := { ac.st with regs := t, objs := ob }, cs := ac.cs ++ cs, es := ac.es ++ es } else none
          | none => none
      else none
    else runOps cf ops ov ops.toList ac
  else none

/-- Runs until the end, or until a loop's head; so many heads are gone past. -/
def drive (cf : Cfg) (ov : Ov) : Nat → Nat → List It → Acc → Option (List It × Acc)
  | 0, _, _, _ => none
  | n + 1, l, k, ac =>
    match k with
    | [] => some ([], ac)
    | .blk _ :: k => drive cf ov n l k ac
    | .scp _ :: k => drive cf ov n l k ac
    | .lp b :: k => match l with
      | 0 => some (.code b :: .lp b :: k, ac)
      | l + 1 => drive cf ov n l (.code b :: .lp b :: k) ac
    | .code c :: k => match c with
      | .skip => drive cf ov n l k ac
      | .seq x y => drive cf ov n l (.code x :: .code y :: k) ac
      | .region _ ops draw => match stepRegion cf ov ops draw ac with
        | some ac' => drive cf ov n l k ac'
        | none => none
      | .cond c x y => match rvOf (regOf ac.st.regs) c with
        | .d (.bool t) => match t with
          | true => drive cf ov n l (.code x :: k) ac
          | false => drive cf ov n l (.code y :: k) ac
        | _ => none
      | .block id b => drive cf ov n l (.code b :: .blk id :: k) ac
      | .loop b => match l with
        | 0 => some (.code b :: .lp b :: k, ac)
        | l + 1 => drive cf ov n l (.code b :: .lp b :: k) ac
      | .exit id => match exitT id k with
        | some k' => drive cf ov n l k' ac
        | none => none
      | .ret => some ([], ac)
      | .label _ => drive cf ov n l k ac
      | .scope b => drive cf ov n l (.code b :: .scp b :: k) ac
      | _ => none

theorem stepRegion_cs {cf : Cfg} {ov : Ov} {ops : Array Oper} {draw : Bool} {ac ac' : Acc} (h : stepRegion cf ov ops draw ac = some ac') :
    (∀ c ∈ ac.cs, c ∈ ac'.cs) ∧ (∀ e ∈ ac.es, e ∈ ac'.es) ∧ ac'.st.m = ac.st.m ∧ ac'.st.n = ac.st.n := by
  unfold stepRegion at h
  cases hg : guardsOk ac.st.n ops with
  | false => rw [hg] at h; simp at h
  | true =>
    rw [hg] at h; simp only [cond_true] at h
    cases draw with
    | false => simp only [cond_false] at h; exact runOps_cs _ h
    | true =>
      simp only [cond_true] at h
      cases hq : quietOk ops with
      | false => rw [hq] at h; simp at h
      | true =>
        rw [hq] at h; simp only [cond_true] at h
        split at h
        · injection h with h; subst h
          exact ⟨fun c hc => by simp [hc], fun e he => by simp [he], rfl, rfl⟩
        · split at h
          · rename_i t ob cs es rs hr
            cases hw : rowsOk rs (ancs ops.toList []) with
            | false => rw [hw] at h; simp at h
            | true =>
              rw [hw] at h; simp only [cond_true] at h
              injection h with h; subst h
              exact ⟨fun c hc => by simp [hc], fun e he => by simp [he], rfl, rfl⟩
          · simp at h

theorem stepRegion_wk {cf : Cfg} (hcf : CfOk P cf) (hmix : P.follows .mixedOrders = true) {ov : Ov} {ops : Array Oper} {draw : Bool} {ac ac' : Acc} (h : stepRegion cf ov ops draw ac = some ac')
    (hc : ∀ c ∈ ac'.cs, c = true) (he : ∀ e ∈ ac'.es, RVle e.1 e.2) {id : Nat} {k : List It} {m : Nat} {Q : SSt → Prop} (hk : WK P m k ac'.st.den Q) : WK P m (.code (.region id ops draw) :: k) ac.st.den Q := by
  unfold stepRegion at h
  cases hg : guardsOk ac.st.n ops with
  | false => rw [hg] at h; simp at h
  | true =>
    rw [hg] at h; simp only [cond_true] at h
    cases draw with
    | false =>
      simp only [cond_false] at h
      refine WK.region (s' := ac'.st.den) (fun κ φ w a F => ?_) hk
      have := runOps_wp (Q := fun e a' w' => e = .normal ∧ ∃ κ' φ', FRel κ' φ' w' ac'.st.den a' ∧ Fr κ w κ' w' ∧ KpM m φ ac.st.den.O φ' ac'.st.den.O) hcf ops.toList 0 F h hc he hg (fun i o hi => by simpa using hi)
        (fun a' w' κ' φ' g1 g2 g3 => ⟨rfl, κ', φ', g1, g2, g3.m m⟩)
      rw [List.range_eq_range']
      simpa using this
    | true =>
      simp only [cond_true] at h
      cases hq : quietOk ops with
      | false => rw [hq] at h; simp at h
      | true =>
        rw [hq] at h; simp only [cond_true] at h
        cases hr : runQ cf ops ov ac.st.objs.get ops.toList ac.st.regs [] [] with
        | none =>
          rw [hr] at h; simp only at h
          split at h
          · rename_i t ob cs es rs hr2
            cases hw : rowsOk rs (ancs ops.toList []) with
            | false => rw [hw] at h; simp at h
            | true =>
              rw [hw] at h; simp only [cond_true] at h
              injection h with h; subst h
              refine WK.regionD (s' := { ac.st.den with R := regOf t, O := ob.get }) hmix (fun κ φ w a F => ?_) hk
              exact eff_any (s := ac.st.den) (t := ac.st.regs) (ob := ac.st.objs) hcf hq hg rfl rfl hr2 hw (fun c hcc => hc c (by simp [hcc])) (fun e hee => he e (by simp [hee])) F
          · simp at h
        | some p =>
          obtain ⟨t, cs, es⟩ := p
          rw [hr] at h; simp only [Option.some.injEq] at h; subst h
          refine WK.regionD (s' := { ac.st.den with R := regOf t }) hmix (fun κ φ w a F => ?_) hk
          have key := quiet_any (κ0 := κ) (w0 := w) (φ0 := φ) (m := m) hcf (s := ac.st.den) (t := ac.st.regs) hq hg rfl hr (fun c hcc => hc c (by simp [hcc])) (fun e hee => he e (by simp [hee]))
          refine key ops.size (Array.replicate ops.size false) κ φ w a (by simp) (by simp [List.countP_replicate]) (fun j o hj hl => by
            exfalso
            by_cases hi : j < ops.size <;> simp [Array.getD, hi] at hl) ?_ (Fr.refl _ _) (KpM.refl _ _ _)
          have : mixR ops ac.st.den.R (regOf t) (Array.replicate ops.size false) = ac.st.den.R := by
            funext d
            unfold mixR
            rw [if_neg]
            rintro ⟨i, o, _, _, h3⟩
            by_cases hi : i < ops.size <;> simp [Array.getD, hi] at h3
          rw [this]; exact F

theorem drive_cs {cf : Cfg} {ov : Ov} : ∀ (n l : Nat) (k k' : List It) (ac ac' : Acc), drive cf ov n l k ac = some (k', ac') → (∀ c ∈ ac.cs, c ∈ ac'.cs) ∧ (∀ e ∈ ac.es, e ∈ ac'.es)
  | 0, _, _, _, _, _, h => by simp [drive] at h
  | n + 1, l, k, k', ac, ac', h => by
    have base : ∀ {k k' : List It} {a a' : Acc}, some (k, a) = some (k', a') → (∀ c ∈ a.cs, c ∈ a'.cs) ∧ (∀ e ∈ a.es, e ∈ a'.es) := by
      intro k k' a a' h
      injection h with h; injection h with h1 h2; subst h2
      exact ⟨fun _ h => h, fun _ h => h⟩
    unfold drive at h
    split at h
    · exact base h
    · exact drive_cs n l _ _ _ _ h
    · exact drive_cs n l _ _ _ _ h
    · split at h
      · exact base h
      · exact drive_cs n _ _ _ _ _ h
    · split at h
      · exact drive_cs n l _ _ _ _ h
      · exact drive_cs n l _ _ _ _ h
      · split at h
        · rename_i a1 hs
          obtain ⟨p1, p2, _⟩ := stepRegion_cs hs
          obtain ⟨q1, q2⟩ := drive_cs n l _ _ _ _ h
          exact ⟨fun c hc => q1 c (p1 c hc), fun e he => q2 e (p2 e he)⟩
        · simp at h
      · split at h
        · split at h <;> exact drive_cs n l _ _ _ _ h
        · simp at h
      · exact drive_cs n l _ _ _ _ h
      · split at h
        · exact base h
        · exact drive_cs n _ _ _ _ _ h
      · split at h
        · exact drive_cs n l _ _ _ _ h
        · simp at h
      · exact base h
      · exact drive_cs n l _ _ _ _ h
      · exact drive_cs n l _ _ _ _ h
      · simp at h

theorem drive_wk {cf : Cfg} (hcf : CfOk P cf) (hmix : P.follows .mixedOrders = true) {ov : Ov} {m : Nat} {Q : SSt → Prop} : ∀ (n l : Nat) (k k' : List It) (ac ac' : Acc), drive cf ov n l k ac = some (k', ac') →
    (∀ c ∈ ac'.cs, c = true) → (∀ e ∈ ac'.es, RVle e.1 e.2) → (k' = [] → Q ac'.st.den) → (k' ≠ [] → WK P m k' ac'.st.den Q) → WK P m k ac.st.den Q
  | 0, _, _, _, _, _, h, _, _, _, _ => by simp [drive] at h
  | n + 1, l, k, k', ac, ac', h, hc, he, h1, h2 => by
    unfold drive at h
    split at h
    · injection h with h; injection h with e1 e2; subst e1; subst e2
      exact WK.done (h1 rfl)
    · exact WK.blk (drive_wk hcf hmix n l _ _ _ _ h hc he h1 h2)
    · exact WK.scp (drive_wk hcf hmix n l _ _ _ _ h hc he h1 h2)
    · split at h
      · injection h with h; injection h with e1 e2; subst e1; subst e2
        exact WK.again (h2 (by simp))
      · exact WK.again (drive_wk hcf hmix n _ _ _ _ _ h hc he h1 h2)
    · split at h
      · exact WK.skip (drive_wk hcf hmix n l _ _ _ _ h hc he h1 h2)
      · exact WK.seq (drive_wk hcf hmix n l _ _ _ _ h hc he h1 h2)
      · split at h
        · rename_i a1 hs
          obtain ⟨q1, q2⟩ := drive_cs n l _ _ _ _ h
          exact stepRegion_wk hcf hmix hs (fun c hcc => hc c (q1 c hcc)) (fun e hee => he e (q2 e hee)) (drive_wk hcf hmix n l _ _ _ _ h hc he h1 h2)
        · simp at h
      · split at h
        · rename_i t hcond
          cases t with
          | true => exact WK.cond (t := true) hcond (drive_wk hcf hmix n l _ _ _ _ h hc he h1 h2)
          | false => exact WK.cond (t := false) hcond (drive_wk hcf hmix n l _ _ _ _ h hc he h1 h2)
        · simp at h
      · exact WK.block (drive_wk hcf hmix n l _ _ _ _ h hc he h1 h2)
      · split at h
        · injection h with h; injection h with e1 e2; subst e1; subst e2
          exact WK.enter (h2 (by simp))
        · exact WK.enter (drive_wk hcf hmix n _ _ _ _ _ h hc he h1 h2)
      · split at h
        · rename_i k1 hex
          exact WK.exit hex (drive_wk hcf hmix n l _ _ _ _ h hc he h1 h2)
        · simp at h
      · injection h with h; injection h with e1 e2; subst e1; subst e2
        exact WK.ret (h1 rfl)
      · exact WK.label (drive_wk hcf hmix n l _ _ _ _ h hc he h1 h2)
      · exact WK.scope (drive_wk hcf hmix n l _ _ _ _ h hc he h1 h2)
      · simp at h

def renOf (olds nws : List Nat) (i : Nat) : Option Nat :=
  match idx i olds 0 with
  | some k => nws[k]?
  | none => none

theorem renOf_spec {olds nws : List Nat} {i j : Nat} (h : renOf olds nws i = some j) : ∃ k : Nat, olds[k]? = some i ∧ nws[k]? = some j := by
  unfold renOf at h
  cases e : idx i olds 0 with
  | none => rw [e] at h; simp at h
  | some k => rw [e] at h; exact ⟨k, by have := (idx_spec i olds 0 k e).2; simpa using this, h⟩

theorem renOf_of {olds nws : List Nat} (hn : nodupB olds = true) {i j k : Nat} (h1 : olds[k]? = some i) (h2 : nws[k]? = some j) : renOf olds nws i = some j := by
  unfold renOf
  obtain ⟨k', hk'⟩ := idx_mem i olds 0 (List.mem_iff_getElem?.2 ⟨k, h1⟩)
  have := (idx_spec i olds 0 k' hk').2
  simp only [Nat.sub_zero] at this
  rw [hk', nodupB_spec olds hn k' k i this h1]; exact h2

theorem ren_len {ρ : Nat → Option Nat} {p q : PObj} (h : p.ren ρ = some q) : PObj.len? (some q) = PObj.len? (some p) := by
  cases p <;> simp only [PObj.ren] at h <;> try (injection h with h; subst h; rfl)
  · split at h
    · injection h with h; subst h; rfl
    · simp at h
  · split at h
    · rename_i hm
      injection h with h; subst h; simp only [PObj.len?, (mapO_spec _ _ _ hm).1]
    · simp at h
  · split at h
    · injection h with h; subst h; rfl
    · simp at h

/-- Only some registers and objects are kept, the objects under other numbers. -/
theorem FRel.keep {κ : Kap} {φ : Phi} {w : World} {s s' : SSt} {a : Act} (F : FRel κ φ w s a) {olds nws : List Nat} (hl : nws.length = olds.length) (h1 : nodupB olds = true) (h2 : nodupB nws = true)
    (hn : s'.n = s.n) (hdf : s.df = []) (hdf' : s'.df = []) (hR : ∀ t, s'.R t = .bot ∨ RV.ren (renOf olds nws) 6 (s.R t) = some (s'.R t))
    (hO : ∀ (k i j : Nat), olds[k]? = some i → nws[k]? = some j → ∃ p q, s.O i = some p ∧ p.ren (renOf olds nws) = some q ∧ s'.O j = some q) (hO' : ∀ j, j ∉ nws → s'.O j = none) :
    ∃ κ' φ', FRel κ' φ' w s' a ∧ Fr κ w κ' w ∧ ∀ (m : Nat), (∀ i, i < m → renOf olds nws i = some i) → KpM m φ s.O φ' s'.O := by
  let κ' : Kap := fun b => match κ b with
    | .imm => .imm
    | .own i => match renOf olds nws i with | some j => .own j | none => .oth
    | .oth => .oth
  let φ' : Phi := fun j => match renOf nws olds j with | some i => φ i | none => .un
  have inv : ∀ i j, renOf olds nws i = some j → renOf nws olds j = some i := fun i j h => by
    obtain ⟨k, e1, e2⟩ := renOf_spec h
    exact renOf_of h2 e2 e1
  have himm : ∀ b, κ b = .imm → κ' b = .imm := fun b hb => by simp only [κ', hb]
  have hφ : ∀ i j, renOf olds nws i = some j → φ i ≠ .un → φ' j = φ i := fun i j h _ => by simp only [φ', inv i j h]
  have hlen : ∀ i j n, renOf olds nws i = some j → φ i ≠ .un → PObj.len? (s'.O j) = some n → PObj.len? (s.O i) = some n := by
    intro i j n h _ hn
    obtain ⟨k, e1, e2⟩ := renOf_spec h
    obtain ⟨p, q, g1, g2, g3⟩ := hO k i j e1 e2
    rw [g1, ← ren_len g2, ← g3]; exact hn
  refine ⟨κ', φ', ⟨fun t => ?_, fun j => ?_, F.bnd.same (fun b e => by simp only [κ', e]), by rw [hn]; exact F.n, by have h0 := F.df; rw [hdf] at h0; rw [hdf', h0.nil]; trivial⟩,
    ⟨Nat.le_refl _, fun b hb => ⟨himm b hb, rfl⟩, fun b _ hb => ⟨by simp only [κ', hb], rfl⟩, fun _ c _ fz hc => ⟨c, fz, hc, rfl⟩, rfl, rfl⟩, fun m hm => ⟨fun i hi hu => hφ i i (hm i hi) hu, fun i n hi hu hn => hlen i i n (hm i hi) hu hn⟩⟩
  · rcases hR t with e | e
    · rw [e]; exact .bot _
    · exact RVR.ren himm hφ hlen 6 _ _ _ e (F.regs t)
  · by_cases hj : j ∈ nws
    · obtain ⟨k, hk⟩ := List.mem_iff_getElem?.1 hj
      have hlt := (List.getElem?_eq_some_iff.1 hk).1
      have hlt2 : k < olds.length := by omega
      have hi : olds[k]? = some olds[k] := by simp [hlt2]
      obtain ⟨p, q, g1, g2, g3⟩ := hO k _ j hi hk
      rw [g3]
      have ho := F.objs olds[k]
      rw [g1] at ho
      exact OR.ren himm hφ hlen (renOf_of h1 hi hk) (fun b hb => by simp only [κ', hb, renOf_of h1 hi hk]) g2 ho
    · rw [hO' j hj]
      show φ' j = .un
      simp only [φ']
      cases e : renOf nws olds j with
      | none => rfl
      | some i =>
        obtain ⟨k, e1, _⟩ := renOf_spec e
        exact absurd (List.mem_iff_getElem?.2 ⟨k, e1⟩) hj

/-- What is kept of a state. -/
structure Post where
  nils : List (Nat × Nat × Nat × Nat) := []
  live : List Nat
  olds : List Nat := []
  nws : List Nat := []

end Go.Am

/-
  The abstract machine: a function's contract out of a run of its body.
-/
namespace Go.Am
set_option linter.unusedSectionVars false
variable {P : Program} [Gl]

def resVal (E : Env) (R : Nat → RV) (O : Tab) : ResultVar → Option RV
  | .tmp t => some (R t)
  | .cell a ty => match exLoad E O ty (R a) with
    | some res => bif res.upd.isEmpty && res.conds.isEmpty then some res.val else none
    | none => none

def one (vs : List RV) : RV :=
  match vs with
  | [v] => v
  | _ => .tup vs

/-- What a function gives, and its objects, numbered from the caller's on. 'frz': its arrays are given as data. -/
def finish (E : Env) (frz : Bool) (m : Nat) (rs : List ResultVar) (R : Nat → RV) (O : Tab) : Option (RV × List PObj × List Bool) :=
  match mapO (resVal E R O) rs with
  | none => none
  | some vs => match (bif frz then prepAll O vs else some (vs, [], [])) with
    | none => none
    | some (vs1, u, c) =>
      let r := one vs1
      let ps := List.range m ++ (reach (updO O u) 400 (r.refs 6 ++ (List.range m).flatMap fun i => objRefs (updO O u i)) []).filter (fun i => Nat.ble m i)
      bif nodupB ps then
        match r.ren (fun i => idx i ps 0) 6, mapO (fun i => match updO O u i with | some p => p.ren (fun i => idx i ps 0) | none => none) ps with
        | some r', some os => some (r', os, c)
        | _, _ => none
      else none

theorem resVal_ok {κ : Kap} {φ : Phi} {w : World} {s : SSt} {a : Act} (F : FRel κ φ w s a) {x : ResultVar} {v : RV} (h : resVal (Env.of P) s.R s.O x = some v) :
    ∃ u, ((match x with
      | .tmp t => pure (a.tmps.getD t undef)
      | .cell b t => do loadVar t (← asAddr (a.tmps.getD b undef))) : Sem Value).run P w = .ok u w ∧ RVR κ φ s.O w.heap v u := by
  cases x with
  | tmp t => simp [resVal] at h; subst h; exact ⟨_, rfl, F.regs t⟩
  | cell b t =>
    simp only [resVal] at h
    cases hx : exLoad (Env.of P) s.O t (s.R b) with
    | none => rw [hx] at h; simp at h
    | some res =>
      rw [hx] at h; simp only at h
      cases hg : (res.upd.isEmpty && res.conds.isEmpty) with
      | false => rw [hg] at h; simp at h
      | true =>
        rw [hg] at h; simp only [cond_true, Option.some.injEq] at h; subst h
        simp only [Bool.and_eq_true, List.isEmpty_iff] at hg
        obtain ⟨_, u, h1, h2⟩ := load_okP F hx (by rw [hg.2]; simp) (F.regs b)
        refine ⟨u, ?_, h2⟩
        have hp : ∃ ad, a.tmps.getD b undef = .pointer (some ad) := by
          have r := F.regs b
          unfold exLoad at hx
          cases hz : (Env.of P).size t with
          | none => rw [hz] at hx; simp at hx
          | some z =>
            rw [hz] at hx
            generalize a.tmps.getD b undef = v at r
            cases hR : s.R b <;> rw [hR] at hx r <;> (try simp only at hx) <;> (try (simp at hx; done)) <;> (cases r; exact ⟨_, rfl⟩)
        obtain ⟨ad, hp⟩ := hp
        show (do loadVar t (← asAddr (a.tmps.getD b undef)) : Sem Value).run P w = .ok u w
        rw [hp] at h1 ⊢
        simpa [Instr.loadAt, Instr.sureAddr, asAddr] using h1

def resG (tmps : Array Value) (x : ResultVar) : Sem Value :=
  match x with
  | .tmp t => pure (tmps.getD t undef)
  | .cell a t => do loadVar t (← asAddr (tmps.getD a undef))

theorem results_ok {κ : Kap} {φ : Phi} {w : World} {s : SSt} {a : Act} (F : FRel κ φ w s a) (g : ResultVar → Sem Value) (hg1 : ∀ t, g (.tmp t) = pure (a.tmps.getD t undef))
    (hg2 : ∀ b t, g (.cell b t) = (do loadVar t (← asAddr (a.tmps.getD b undef)))) : ∀ (rs : List ResultVar) (vs : List RV), mapO (resVal (Env.of P) s.R s.O) rs = some vs →
    ∃ us : List Value, (rs.mapM g).run P w = .ok us w ∧ us.length = vs.length ∧ ∀ (i : Nat) (x : RV) (v : Value), vs[i]? = some x → us[i]? = some v → RVR κ φ s.O w.heap x v
  | [], vs, h => by simp [mapO] at h; subst h; exact ⟨[], rfl, rfl, by simp⟩
  | x :: rs, vs, h => by
    simp only [mapO] at h
    cases h1 : resVal (Env.of P) s.R s.O x with
    | none => rw [h1] at h; simp at h
    | some v =>
      cases h2 : mapO (resVal (Env.of P) s.R s.O) rs with
      | none => rw [h1, h2] at h; simp at h
      | some q =>
        rw [h1, h2] at h; simp at h; subst h
        obtain ⟨u, e1, e2⟩ := resVal_ok F h1
        have e1' : (g x).run P w = .ok u w := by
          cases x with
          | tmp t => rw [hg1]; exact e1
          | cell b t => rw [hg2]; exact e1
        obtain ⟨us, g1, g2, g3⟩ := results_ok F g hg1 hg2 rs q h2
        refine ⟨u :: us, ?_, by simp [g2], fun i y w' hy hw => ?_⟩
        · simp [List.mapM_cons, e1', g1]
        · cases i with
          | zero => simp at hy hw; subst hy; subst hw; exact e2
          | succ i => exact g3 i y w' (by simpa using hy) (by simpa using hw)

theorem one_ok {κ : Kap} {φ : Phi} {O : Tab} {h : Heap} {vs : List RV} {us : List Value} (hl : us.length = vs.length) (hr : ∀ (i : Nat) (x : RV) (v : Value), vs[i]? = some x → us[i]? = some v → RVR κ φ O h x v) :
    RVR κ φ O h (one vs) (if hh : us.toArray.size = 1 then us.toArray[0] else .tuple us.toArray) := by
  cases vs with
  | nil =>
    have : us = [] := List.eq_nil_of_length_eq_zero (by simpa using hl)
    subst this
    simp only [one]; exact .tup rfl (by simp)
  | cons v vs =>
    cases us with
    | nil => simp at hl
    | cons u us =>
      cases vs with
      | nil =>
        have : us = [] := List.eq_nil_of_length_eq_zero (by simpa using hl)
        subst this
        simp only [one]; exact hr 0 v u rfl rfl
      | cons v2 vs =>
        have hne : ¬ (u :: us).toArray.size = 1 := by simp at hl ⊢; intro e; subst e; simp at hl
        rw [dif_neg hne]
        show RVR κ φ O h (.tup (v :: v2 :: vs)) _
        exact .tup (by simpa using hl) (fun i x v hx hv => hr i x v hx (by simpa using hv))

theorem calls_of_body {f : FuncId} {fn : Func} {c : Code} {args : Array Value} {w : World} {R : Ending → World → Prop}
    (hf : P.funcs[f]? = some fn) (hb : fn.body = some c)
    (h : ∀ (b : Frame) (cs : List Frame), ∃ e a' w', (e = .normal ∨ e = .ret) ∧ (a'.defers = [] ∧ ∃ v, (results fn a'.tmps).run P w' = .ok v w' ∧ R (.returned v) w') ∧
      Arrives P (lone (b.at { tmps := args ++ Array.replicate (fn.ntmps - args.size) undef, defers := [] } [.code c]) cs w) b [] cs e a' w') : Calls P f args w R := by
  intro cs
  let b : Frame := { (default : Frame) with fn := f, kind := .normal }
  have henter : Frame.enter P f args .normal = b.at { tmps := args ++ Array.replicate (fn.ntmps - args.size) undef, defers := [] } [.code c] := by
    simp [Frame.enter, Frame.at, hf, hb, b]
  obtain ⟨e, a', w', he, ⟨hd, v, hr, hR⟩, harr⟩ := h b cs
  rw [← henter] at harr
  rcases he with rfl | rfl
  · exact ⟨.returned v, w', _, hR, Steps.trans harr (.one step_end), rfl, rfl, hd, rfl, fn, hf, hr⟩
  · obtain ⟨todo, hs⟩ := harr
    exact ⟨.returned v, w', _, hR, hs, rfl, rfl, hd, rfl, fn, hf, hr⟩

end Go.Am

/-
  The abstract machine: what a proof about a function is made of.
-/
namespace Go.Am
set_option linter.unusedSectionVars false
variable {P : Program} [Gl]

def Obl : List Bool → Prop
  | [] => True
  | c :: r => c = true ∧ Obl r
def ObE : List (RV × RV) → Prop
  | [] => True
  | (x, y) :: r => RVle x y ∧ ObE r

theorem Obl.all : ∀ {l : List Bool}, Obl l → ∀ c ∈ l, c = true
  | [], _, c, h => by simp at h
  | x :: r, ⟨h1, h2⟩, c, h => by
    rcases List.mem_cons.1 h with rfl | h
    · exact h1
    · exact Obl.all h2 c h
theorem ObE.all : ∀ {l : List (RV × RV)}, ObE l → ∀ e ∈ l, RVle e.1 e.2
  | [], _, e, h => by simp at h
  | (x, y) :: r, ⟨h1, h2⟩, e, h => by
    rcases List.mem_cons.1 h with rfl | h
    · exact h1
    · exact ObE.all h2 e h

/-- A run to the function's end: what it gives. -/
def runEnd (cf : Cfg) (frz : Bool) (rs : List ResultVar) (n l : Nat) (ov : Ov) (k : List It) (st : ESt) : Option (RV × List PObj × List Bool × List (RV × RV)) :=
  match drive cf ov n l k { st := st, cs := [], es := [] } with
  | some (k', ac) => match k' with
    | [] => match finish cf.E frz ac.st.m rs (regOf ac.st.regs) ac.st.objs.get with
      | some (r, o, c) => some (r, o, ac.cs ++ c, ac.es)
      | none => none
    | _ :: _ => none
  | none => none

theorem drive_m {cf : Cfg} {ov : Ov} : ∀ (n l : Nat) (k k' : List It) (ac ac' : Acc), drive cf ov n l k ac = some (k', ac') → ac'.st.m = ac.st.m
  | 0, _, _, _, _, _, h => by simp [drive] at h
  | n + 1, l, k, k', ac, ac', h => by
    have base : ∀ {k k' : List It} {a a' : Acc}, some (k, a) = some (k', a') → a'.st.m = a.st.m := by
      intro k k' a a' h
      injection h with h; injection h with h1 h2; subst h2; rfl
    unfold drive at h
    split at h
    · exact base h
    · exact drive_m n l _ _ _ _ h
    · exact drive_m n l _ _ _ _ h
    · split at h
      · exact base h
      · exact drive_m n _ _ _ _ _ h
    · split at h
      · exact drive_m n l _ _ _ _ h
      · exact drive_m n l _ _ _ _ h
      · split at h
        · rename_i a1 hs
          have := (stepRegion_cs hs).2.2.1
          rw [drive_m n l _ _ _ _ h, this]
        · simp at h
      · split at h
        · split at h <;> exact drive_m n l _ _ _ _ h
        · simp at h
      · exact drive_m n l _ _ _ _ h
      · split at h
        · exact base h
        · exact drive_m n _ _ _ _ _ h
      · split at h
        · exact drive_m n l _ _ _ _ h
        · simp at h
      · exact base h
      · exact drive_m n l _ _ _ _ h
      · exact drive_m n l _ _ _ _ h
      · simp at h

structure Ok (P : Program) (cf : Cfg) : Prop where
  cf : CfOk P cf
  mix : P.follows .mixedOrders = true

theorem WK.fin {cf : Cfg} (hok : Ok P cf) {m : Nat} {st : ESt} {k : List It} {rs : List ResultVar} {frz : Bool} {Q : RV → List PObj → Prop} (n l : Nat) (ov : Ov) {r : RV} {o : List PObj} (cs : List Bool) (es : List (RV × RV)) (hm : st.m = m)
    (h : runEnd cf frz rs n l ov k st = some (r, o, cs, es)) (hc : Obl cs) (he : ObE es) (hQ : Q r o) :
    WK P m k st.den (fun s => s.df = [] ∧ ∃ r objs' c, finish (Env.of P) frz m rs s.R s.O = some (r, objs', c) ∧ (∀ b ∈ c, b = true) ∧ Q r objs') := by
  subst hm
  unfold runEnd at h
  split at h
  · rename_i k1 ac hd
    split at h
    · rw [hok.cf.E] at h
      cases hf : finish (Env.of P) frz ac.st.m rs (regOf ac.st.regs) ac.st.objs.get with
      | none => rw [hf] at h; simp at h
      | some p =>
        obtain ⟨r', o', c'⟩ := p
        rw [hf] at h; simp only [Option.some.injEq, Prod.mk.injEq] at h
        obtain ⟨rfl, rfl, rfl, rfl⟩ := h
        have hm1 := drive_m _ _ _ _ _ _ hd
        refine drive_wk hok.cf hok.mix n l k _ { st := st, cs := [], es := [] } ac hd (fun c hcc => hc.all c (by simp [hcc])) he.all (fun _ => ?_) (fun e => by simp at e)
        rw [← hm1]
        exact ⟨rfl, r', o', c', hf, fun b hb => hc.all b (by simp [hb]), hQ⟩
    · simp at h
  · simp at h

end Go.Am

/-
  The abstract machine: contracts that were walked otherwise.
-/
namespace Go.Am
set_option linter.unusedSectionVars false
open Go.RowKit
variable {P : Program} [Gl]

def DV.one : DV → Option Value
  | .bool b => some (.bool b)
  | .int k n => some (.int k n)
  | .str s => some (.string ⟨s.toArray⟩)
  | .nilp => some (.pointer none)
  | .nilf => some .nilFunc
  | .nili => some .nilIface
  | _ => none
def DV.ones : List DV → Option (List Value)
  | [] => some []
  | x :: r => match x.one, DV.ones r with
    | some v, some l => some (v :: l)
    | _, _ => none
def DV.flat : DV → Option Value
  | .agg cs => match DV.ones cs with
    | some l => some (.agg l.toArray)
    | none => none
  | .tup cs => match DV.ones cs with
    | some l => some (.tuple l.toArray)
    | none => none
  | x => x.one

theorem DR.one {κ : Kap} {h : Heap} {x : DV} {v u : Value} (r : DR κ h x v) (e : x.one = some u) : v = u := by
  cases r <;> simp_all [DV.one]
theorem DR.of_one {κ : Kap} {h : Heap} {x : DV} {u : Value} (e : x.one = some u) : DR κ h x u := by
  cases x <;> simp [DV.one] at e <;> subst e <;> constructor
theorem DV.one_scal {x : DV} {u : Value} (e : x.one = some u) : x.scal = true := by cases x <;> first | rfl | (simp [DV.one] at e)

theorem DV.ones_spec : ∀ (cs : List DV) (us : List Value), DV.ones cs = some us → us.length = cs.length ∧ (∀ x ∈ cs, ∃ u, x.one = some u) ∧ ∀ (i : Nat) (x : DV) (u : Value), cs[i]? = some x → us[i]? = some u → x.one = some u
  | [], us, h => by simp [DV.ones] at h; subst h; simp
  | x :: cs, us, h => by
    simp only [DV.ones] at h
    cases h1 : x.one with
    | none => rw [h1] at h; simp at h
    | some v =>
      cases h2 : DV.ones cs with
      | none => rw [h1, h2] at h; simp at h
      | some l =>
        rw [h1, h2] at h; simp at h; subst h
        obtain ⟨g1, g2, g3⟩ := DV.ones_spec cs l h2
        refine ⟨by simp [g1], fun y hy => ?_, fun i y u hy hu => ?_⟩
        · rcases List.mem_cons.1 hy with rfl | hy
          · exact ⟨v, h1⟩
          · exact g2 y hy
        · cases i with
          | zero => simp at hy hu; subst hy; subst hu; exact h1
          | succ i => exact g3 i y u (by simpa using hy) (by simpa using hu)

theorem DR.flat {κ : Kap} {h : Heap} {x : DV} {v u : Value} (r : DR κ h x v) (e : x.flat = some u) : v = u := by
  have key : ∀ {cs : List DV} {vs : Array Value} {l : List Value}, DV.ones cs = some l → vs.size = cs.length → (∀ (i : Nat) (x : DV) (v : Value), cs[i]? = some x → vs[i]? = some v → DR κ h x v) → vs = l.toArray := by
    intro cs vs l h1 h2 h3
    obtain ⟨g1, g2, g3⟩ := DV.ones_spec cs l h1
    apply Array.ext
    · simp; omega
    · intro i hi hi2
      simp at hi2
      have e1 : cs[i]? = some cs[i] := by simp [show i < cs.length by omega]
      have e2 : vs[i]? = some vs[i] := by simp [hi]
      have e3 : l[i]? = some l[i] := by simp [hi2]
      have := (h3 i _ _ e1 e2).one (g3 i _ _ e1 e3)
      simpa using this
  cases x with
  | agg cs =>
    simp only [DV.flat] at e
    cases h1 : DV.ones cs with
    | none => rw [h1] at e; simp at e
    | some l =>
      rw [h1] at e; simp at e; subst e
      cases r with
      | agg hl hs hr => rw [key h1 hl hr]
  | tup cs =>
    simp only [DV.flat] at e
    cases h1 : DV.ones cs with
    | none => rw [h1] at e; simp at e
    | some l =>
      rw [h1] at e; simp at e; subst e
      cases r with
      | tup hl hr => rw [key h1 hl hr]
  | _ => exact r.one e

theorem DR.of_flat {κ : Kap} {h : Heap} {x : DV} {u : Value} (e : x.flat = some u) : DR κ h x u := by
  cases x with
  | agg cs =>
    simp only [DV.flat] at e
    cases h1 : DV.ones cs with
    | none => rw [h1] at e; simp at e
    | some l =>
      rw [h1] at e; simp at e; subst e
      obtain ⟨g1, g2, g3⟩ := DV.ones_spec cs l h1
      exact .agg (by simpa using g1) (fun y hy => by obtain ⟨u, hu⟩ := g2 y hy; exact DV.one_scal hu) (fun i x v hx hv => DR.of_one (g3 i x v hx (by simpa using hv)))
  | tup cs =>
    simp only [DV.flat] at e
    cases h1 : DV.ones cs with
    | none => rw [h1] at e; simp at e
    | some l =>
      rw [h1] at e; simp at e; subst e
      obtain ⟨g1, g2, g3⟩ := DV.ones_spec cs l h1
      exact .tup (by simpa using g1) (fun i x v hx hv => DR.of_one (g3 i x v hx (by simpa using hv)))
  | _ => exact DR.of_one e

theorem tabNil (i : Nat) : tabOf [] i = none := by simp [tabOf]

/-- A contract of data out of a walk that turns no block that was there. -/
theorem C_of_calls {f : FuncId} {args : List DV} {d : DV}
    (h : ∀ (κ : Kap) (w : World) (vs : Array Value), (∀ b, κ b ≠ .oth → b < w.heap.size) → vs.size = args.length → (∀ (i : Nat) (x : DV) (v : Value), args[i]? = some x → vs[i]? = some v → DR κ w.heap x v) →
      Calls P f vs w fun e w' => ∃ v κ', e = .returned v ∧ DR κ' w'.heap d v ∧ (w.heap.size ≤ w'.heap.size ∧ w'.os = w.os ∧ w'.output = w.output) ∧ (∀ b, b < w.heap.size → w'.heap[b]? = w.heap[b]? ∧ κ' b = κ b) ∧ (∀ b, κ' b ≠ .oth → b < w'.heap.size)) :
    C P f (args.map .d) [] (fun r o => r = .d d ∧ o = []) := by
  intro κ φ w vs h1 h2 h3 h4
  refine (h κ w vs h2.lt (by simpa using h3) (fun i x v hx hv => ?_)).mono ?_
  · have := h4 i (.d x) v (by simp [hx]) hv
    cases this with
    | d hr => exact hr
  · rintro e w' ⟨v, κ', rfl, hd, hs, hb, hn⟩
    have hfr : Fr κ w κ' w' := by
      refine ⟨hs.1, fun b hk => ?_, fun b hl hk => ?_, fun b c ty fz hc => ?_, hs.2.1, hs.2.2⟩
      · have hl := h2.lt b (by rw [hk]; simp)
        exact ⟨(hb b hl).2.trans hk, (hb b hl).1⟩
      · exact ⟨(hb b hl).2.trans hk, (hb b hl).1⟩
      · have hl : b < w.heap.size := by
          rcases Nat.lt_or_ge b w.heap.size with h' | h'
          · exact h'
          · rw [Array.getElem?_eq_none h'] at hc; simp at hc
        exact ⟨c, fz, (hb b hl).1.trans hc, rfl⟩
    refine ⟨v, .d d, [], κ', φ, rfl, ⟨rfl, rfl⟩, .d hd, fun i => ?_, h2.step hfr hn, Nat.le_refl _, hfr, Kp.refl _ _⟩
    have := h1 i
    rw [tabNil] at this ⊢
    exact this

/-- Plain data in, plain data out. -/
theorem C_flat {f : FuncId} {args : List DV} {us : List Value} {d : DV} {v : Value} (ha : mapO DV.flat args = some us) (hd : d.flat = some v)
    (h : ∀ w : World, Calls P f us.toArray w fun e w' => e = .returned v ∧ Below w.heap.size w w') : C P f (args.map .d) [] (fun r o => r = .d d ∧ o = []) := by
  obtain ⟨g1, g2⟩ := mapO_spec _ args us ha
  refine C_of_calls fun κ w vs hk hl hr => ?_
  have : vs = us.toArray := by
    apply Array.ext
    · simp; omega
    · intro i hi hi2
      simp at hi2
      have e1 : args[i]? = some args[i] := by simp [show i < args.length by omega]
      have e2 : vs[i]? = some vs[i] := by simp [hi]
      have e3 : us[i]? = some us[i] := by simp [hi2]
      simpa using (hr i _ _ e1 e2).flat (g2 i _ _ e1 e3)
  subst this
  refine (h w).mono ?_
  rintro e w' ⟨rfl, hB⟩
  exact ⟨v, κ, rfl, DR.of_flat hd, ⟨hB.size, hB.os, hB.output⟩, fun b hb => ⟨hB.block b hb, rfl⟩, fun b hb => Nat.lt_of_lt_of_le (hk b hb) hB.size⟩

/-- A new row of cells, as data. -/
def newImm (κ : Kap) (v : Value) : Kap := fun b => if v.ownBlock = some b then .imm else κ b

theorem newRow {κ : Kap} {w w' : World} {e : TypeId} {sz n : Nat} {v : Value} {xs : List Value} {els : List DV} (ho : w'.ownsRow w.heap.size e sz v n xs) (hn : n = els.length) (hz : ElsOk sz els)
    (hx : ∀ (i : Nat) (x : DV) (j : Nat) (y : DV) (u : Value), els[i]? = some x → x.cells[j]? = some y → xs[i * sz + j]? = some u → y.one = some u)
    (hk : ∀ b, κ b ≠ .oth → b < w.heap.size) (hs : w.heap.size ≤ w'.heap.size) :
    DR (newImm κ v) w'.heap (.lst sz els false) v ∧ (∀ b, b < w.heap.size → newImm κ v b = κ b) ∧ (∀ b, newImm κ v b ≠ .oth → b < w'.heap.size) := by
  obtain ⟨h1, h2⟩ := ho
  rcases h2 with ⟨rfl, h0⟩ | ⟨g, cap, cur, rfl, hg, hc, h3, _, h4, h5⟩
  · have : els = [] := List.eq_nil_of_length_eq_zero (by omega)
    subst this
    exact ⟨.lst0 (fun h => by cases h), fun b _ => by simp [newImm, Value.ownBlock], fun b hb => by simp [newImm, Value.ownBlock] at hb; exact Nat.lt_of_lt_of_le (hk b hb) hs⟩
  · subst hn
    have hlt : g < w'.heap.size := by
      rcases Nat.lt_or_ge g w'.heap.size with h' | h'
      · exact h'
      · rw [Array.getElem?_eq_none h'] at hc; simp at hc
    refine ⟨.lst (by simp [newImm, Value.ownBlock]) hc (fun h => by cases h) h3 (by omega) hz (fun i x j y u hi hj hu => ?_), fun b hb => ?_, fun b hb => ?_⟩
    · have hil := (List.getElem?_eq_some_iff.1 hi).1
      have hjl : j < sz := by
        have := (hz x (List.mem_of_getElem? hi)).1
        have := (List.getElem?_eq_some_iff.1 hj).1
        omega
      have hlt : i * sz + j < els.length * sz := by
        have : (i + 1) * sz ≤ els.length * sz := Nat.mul_le_mul_right _ hil
        rw [Nat.add_mul, Nat.one_mul] at this; omega
      refine DR.of_one (hx i x j y u hi hj ?_)
      rw [← h5, List.getElem?_take, if_pos hlt]
      simpa using hu
    · simp only [newImm, Value.ownBlock, Option.some.injEq]
      rw [if_neg (by omega)]
    · simp only [newImm, Value.ownBlock, Option.some.injEq] at hb
      by_cases e : g = b
      · subst e; exact hlt
      · rw [if_neg e] at hb; exact Nat.lt_of_lt_of_le (hk b hb) hs

end Go.Am

/-
  The abstract machine: tables of contracts; functions that are run where they are called.
-/
namespace Go.Am
set_option linter.unusedSectionVars false
variable {P : Program} [Gl]

abbrev Ent := List RV → List PObj → Option (RV × List PObj × List Bool)

def findE : List (Nat × Ent) → Nat → Option Ent
  | [], _ => none
  | (i, g) :: r, f => bif Nat.beq i f then some g else findE r f

def konOf (l : List (Nat × Ent)) : Kon := fun f a o => match findE l f with
  | some g => g a o
  | none => none

def EntOk (P : Program) (f : Nat) (g : Ent) : Prop := ∀ a o r o' c, g a o = some (r, o', c) → (∀ b ∈ c, b = true) → C P f a o (fun r2 o2 => r2 = r ∧ o2 = o')

theorem findE_spec : ∀ (l : List (Nat × Ent)) (f : Nat) (g : Ent), findE l f = some g → (f, g) ∈ l
  | [], f, g, h => by simp [findE] at h
  | (i, g') :: r, f, g, h => by
    simp only [findE] at h
    cases hb : Nat.beq i f with
    | true => rw [hb] at h; simp at h; subst h; have := nbE hb; subst this; simp
    | false => rw [hb] at h; simp at h; simp [findE_spec r f g h]

inductive EntsOk (P : Program) : List (Nat × Ent) → Prop
  | nil : EntsOk P []
  | cons {f : Nat} {g : Ent} {l : List (Nat × Ent)} (h : EntOk P f g) (t : EntsOk P l) : EntsOk P ((f, g) :: l)

theorem EntsOk.mem {l : List (Nat × Ent)} (h : EntsOk P l) : ∀ f g, (f, g) ∈ l → EntOk P f g := by
  induction h with
  | nil => intro f g hm; simp at hm
  | cons h _ ih =>
    intro f g hm
    rcases List.mem_cons.1 hm with e | hm
    · injection e with e1 e2; subst e1; subst e2; exact h
    · exact ih f g hm

theorem konOf_ok {l : List (Nat × Ent)} (h : EntsOk P l) : KSound P (konOf l) := by
  intro f args objs r objs' c hk hc
  unfold konOf at hk
  cases hf : findE l f with
  | none => rw [hf] at hk; simp at hk
  | some g => rw [hf] at hk; exact h.mem f g (findE_spec l f g hf) args objs r objs' c hk hc

def e0 (g : Option (DV × List Bool)) : Ent := fun a o => match a, o with
  | [], [] => match g with
    | some (y, c) => some (.d y, [], c)
    | none => none
  | _, _ => none
def e1 (g : DV → Option (DV × List Bool)) : Ent := fun a o => match a, o with
  | [.d x], [] => match g x with
    | some (y, c) => some (.d y, [], c)
    | none => none
  | _, _ => none
def e2 (g : DV → DV → Option (DV × List Bool)) : Ent := fun a o => match a, o with
  | [.d x, .d x2], [] => match g x x2 with
    | some (y, c) => some (.d y, [], c)
    | none => none
  | _, _ => none

theorem e1_ok {f : Nat} {g : DV → Option (DV × List Bool)} (h : ∀ x y c, g x = some (y, c) → (∀ b ∈ c, b = true) → C P f [.d x] [] (fun r o => r = .d y ∧ o = [])) : EntOk P f (e1 g) := by
  intro a o r o' c hg hc
  unfold e1 at hg
  split at hg
  · rename_i x
    cases hx : g x with
    | none => rw [hx] at hg; simp at hg
    | some p =>
      obtain ⟨y, c'⟩ := p
      rw [hx] at hg; simp at hg
      obtain ⟨rfl, rfl, rfl⟩ := hg
      exact h x y c' hx hc
  · simp at hg
theorem e2_ok {f : Nat} {g : DV → DV → Option (DV × List Bool)} (h : ∀ x x2 y c, g x x2 = some (y, c) → (∀ b ∈ c, b = true) → C P f [.d x, .d x2] [] (fun r o => r = .d y ∧ o = [])) : EntOk P f (e2 g) := by
  intro a o r o' c hg hc
  unfold e2 at hg
  split at hg
  · rename_i x x2
    cases hx : g x x2 with
    | none => rw [hx] at hg; simp at hg
    | some p =>
      obtain ⟨y, c'⟩ := p
      rw [hx] at hg; simp at hg
      obtain ⟨rfl, rfl, rfl⟩ := hg
      exact h x x2 y c' hx hc
  · simp at hg

def orK (a b : Kon) : Kon := fun f args objs => match a f args objs with
  | some x => some x
  | none => b f args objs

theorem orK_ok {a b : Kon} (ha : KSound P a) (hb : KSound P b) : KSound P (orK a b) := by
  intro f args objs r objs' c hk hc
  unfold orK at hk
  cases h : a f args objs with
  | some x => rw [h] at hk; simp only [Option.some.injEq] at hk; subst hk; exact ha _ _ _ _ _ _ h hc
  | none => rw [h] at hk; exact hb _ _ _ _ _ _ hk hc

end Go.Am
namespace Go.Am
variable {P : Program} [Gl]

end Go.Am

/-
  The closed machine: its tables, for the kernel.
-/
namespace Go.Am
set_option linter.unusedSectionVars false
variable [Gl]

inductive D16 where
  | d0 | d1 | d2 | d3 | d4 | d5 | d6 | d7 | d8 | d9 | d10 | d11 | d12 | d13 | d14 | d15
  deriving DecidableEq
inductive N16 (α : Type) where
  | mk (a0 a1 a2 a3 a4 a5 a6 a7 a8 a9 a10 a11 a12 a13 a14 a15 : α)

def dig (n : Nat) : D16 := bif Nat.beq n 0 then .d0 else bif Nat.beq n 1 then .d1 else bif Nat.beq n 2 then .d2 else bif Nat.beq n 3 then .d3 else bif Nat.beq n 4 then .d4 else bif Nat.beq n 5 then .d5 else bif Nat.beq n 6 then .d6 else bif Nat.beq n 7 then .d7 else bif Nat.beq n 8 then .d8 else bif Nat.beq n 9 then .d9 else bif Nat.beq n 10 then .d10 else bif Nat.beq n 11 then .d11 else bif Nat.beq n 12 then .d12 else bif Nat.beq n 13 then .d13 else bif Nat.beq n 14 then .d14 else .d15
noncomputable def N16.get {α : Type} (d : D16) (t : N16 α) : α :=
  D16.rec (motive := fun _ => N16 α → α) (fun t => N16.rec (motive := fun _ => α) (fun a0 _ _ _ _ _ _ _ _ _ _ _ _ _ _ _ => a0) t) (fun t => N16.rec (motive := fun _ => α) (fun _ a1 _ _ _ _ _ _ _ _ _ _ _ _ _ _ => a1) t) (fun t => N16.rec (motive := fun _ => α) (fun _ _ a2 _ _ _ _ _ _ _ _ _ _ _ _ _ => a2) t) (fun t => N16.rec (motive := fun _ => α) (fun _ _ _ a3 _ _ _ _ _ _ _ _ _ _ _ _ => a3) t) (fun t => N16.rec (motive := fun _ => α) (fun _ _ _ _ a4 _ _ _ _ _ _ _ _ _ _ _ => a4) t) (fun t => N16.rec (motive := fun _ => α) (fun _ _ _ _ _ a5 _ _ _ _ _ _ _ _ _ _ => a5) t) (fun t => N16.rec (motive := fun _ => α) (fun _ _ _ _ _ _ a6 _ _ _ _ _ _ _ _ _ => a6) t) (fun t => N16.rec (motive := fun _ => α) (fun _ _ _ _ _ _ _ a7 _ _ _ _ _ _ _ _ => a7) t) (fun t => N16.rec (motive := fun _ => α) (fun _ _ _ _ _ _ _ _ a8 _ _ _ _ _ _ _ => a8) t) (fun t => N16.rec (motive := fun _ => α) (fun _ _ _ _ _ _ _ _ _ a9 _ _ _ _ _ _ => a9) t) (fun t => N16.rec (motive := fun _ => α) (fun _ _ _ _ _ _ _ _ _ _ a10 _ _ _ _ _ => a10) t) (fun t => N16.rec (motive := fun _ => α) (fun _ _ _ _ _ _ _ _ _ _ _ a11 _ _ _ _ => a11) t) (fun t => N16.rec (motive := fun _ => α) (fun _ _ _ _ _ _ _ _ _ _ _ _ a12 _ _ _ => a12) t) (fun t => N16.rec (motive := fun _ => α) (fun _ _ _ _ _ _ _ _ _ _ _ _ _ a13 _ _ => a13) t) (fun t => N16.rec (motive := fun _ => α) (fun _ _ _ _ _ _ _ _ _ _ _ _ _ _ a14 _ => a14) t) (fun t => N16.rec (motive := fun _ => α) (fun _ _ _ _ _ _ _ _ _ _ _ _ _ _ _ a15 => a15) t) d t
noncomputable def N16.put {α : Type} (d : D16) (v : α) (t : N16 α) : N16 α :=
  D16.rec (motive := fun _ => α → N16 α → N16 α) (fun v t => N16.rec (motive := fun _ => N16 α) (fun _ a1 a2 a3 a4 a5 a6 a7 a8 a9 a10 a11 a12 a13 a14 a15 => .mk v a1 a2 a3 a4 a5 a6 a7 a8 a9 a10 a11 a12 a13 a14 a15) t) (fun v t => N16.rec (motive := fun _ => N16 α) (fun a0 _ a2 a3 a4 a5 a6 a7 a8 a9 a10 a11 a12 a13 a14 a15 => .mk a0 v a2 a3 a4 a5 a6 a7 a8 a9 a10 a11 a12 a13 a14 a15) t) (fun v t => N16.rec (motive := fun _ => N16 α) (fun a0 a1 _ a3 a4 a5 a6 a7 a8 a9 a10 a11 a12 a13 a14 a15 => .mk a0 a1 v a3 a4 a5 a6 a7 a8 a9 a10 a11 a12 a13 a14 a15) t) (fun v t => N16.rec (motive := fun _ => N16 α) (fun a0 a1 a2 _ a4 a5 a6 a7 a8 a9 a10 a11 a12 a13 a14 a15 => .mk a0 a1 a2 v a4 a5 a6 a7 a8 a9 a10 a11 a12 a13 a14 a15) t) (fun v t => N16.rec (motive := fun _ => N16 α) (fun a0 a1 a2 a3 _ a5 a6 a7 a8 a9 a10 a11 a12 a13 a14 a15 => .mk a0 a1 a2 a3 v a5 a6 a7 a8 a9 a10 a11 a12 a13 a14 a15) t) (fun v t => N16.rec (motive := fun _ => N16 α) (fun a0 a1 a2 a3 a4 _ a6 a7 a8 a9 a10 a11 a12 a13 a14 a15 => .mk a0 a1 a2 a3 a4 v a6 a7 a8 a9 a10 a11 a12 a13 a14 a15) t) (fun v t => N16.rec (motive := fun _ => N16 α) (fun a0 a1 a2 a3 a4 a5 _ a7 a8 a9 a10 a11 a12 a13 a14 a15 => .mk a0 a1 a2 a3 a4 a5 v a7 a8 a9 a10 a11 a12 a13 a14 a15) t) (fun v t => N16.rec (motive := fun _ => N16 α) (fun a0 a1 a2 a3 a4 a5 a6 _ a8 a9 a10 a11 a12 a13 a14 a15 => .mk a0 a1 a2 a3 a4 a5 a6 v a8 a9 a10 a11 a12 a13 a14 a15) t) (fun v t => N16.rec (motive := fun _ => N16 α) (fun a0 a1 a2 a3 a4 a5 a6 a7 _ a9 a10 a11 a12 a13 a14 a15 => .mk a0 a1 a2 a3 a4 a5 a6 a7 v a9 a10 a11 a12 a13 a14 a15) t) (fun v t => N16.rec (motive := fun _ => N16 α) (fun a0 a1 a2 a3 a4 a5 a6 a7 a8 _ a10 a11 a12 a13 a14 a15 => .mk a0 a1 a2 a3 a4 a5 a6 a7 a8 v a10 a11 a12 a13 a14 a15) t) (fun v t => N16.rec (motive := fun _ => N16 α) (fun a0 a1 a2 a3 a4 a5 a6 a7 a8 a9 _ a11 a12 a13 a14 a15 => .mk a0 a1 a2 a3 a4 a5 a6 a7 a8 a9 v a11 a12 a13 a14 a15) t) (fun v t => N16.rec (motive := fun _ => N16 α) (fun a0 a1 a2 a3 a4 a5 a6 a7 a8 a9 a10 _ a12 a13 a14 a15 => .mk a0 a1 a2 a3 a4 a5 a6 a7 a8 a9 a10 v a12 a13 a14 a15) t) (fun v t => N16.rec (motive := fun _ => N16 α) (fun a0 a1 a2 a3 a4 a5 a6 a7 a8 a9 a10 a11 _ a13 a14 a15 => .mk a0 a1 a2 a3 a4 a5 a6 a7 a8 a9 a10 a11 v a13 a14 a15) t) (fun v t => N16.rec (motive := fun _ => N16 α) (fun a0 a1 a2 a3 a4 a5 a6 a7 a8 a9 a10 a11 a12 _ a14 a15 => .mk a0 a1 a2 a3 a4 a5 a6 a7 a8 a9 a10 a11 a12 v a14 a15) t) (fun v t => N16.rec (motive := fun _ => N16 α) (fun a0 a1 a2 a3 a4 a5 a6 a7 a8 a9 a10 a11 a12 a13 _ a15 => .mk a0 a1 a2 a3 a4 a5 a6 a7 a8 a9 a10 a11 a12 a13 v a15) t) (fun v t => N16.rec (motive := fun _ => N16 α) (fun a0 a1 a2 a3 a4 a5 a6 a7 a8 a9 a10 a11 a12 a13 a14 _ => .mk a0 a1 a2 a3 a4 a5 a6 a7 a8 a9 a10 a11 a12 a13 a14 v) t) d v t
def N16.all {α : Type} (v : α) : N16 α := .mk v v v v v v v v v v v v v v v v

theorem N16.get_put {α : Type} (d e : D16) (v : α) (t : N16 α) : (t.put d v).get e = if d = e then v else t.get e := by
  cases t; cases d <;> cases e <;> rfl
theorem N16.get_all {α : Type} (d : D16) (v : α) : (N16.all v).get d = v := by cases d <;> rfl

theorem dig_inj {n m : Nat} (hn : n < 16) (hm : m < 16) (h : dig n = dig m) : n = m := by
  have key : ∀ n : Fin 16, ∀ m : Fin 16, dig n.1 = dig m.1 → n.1 = m.1 := by decide
  exact key ⟨n, hn⟩ ⟨m, hm⟩ h

/-- Registers: so many as 512, in two halves. -/
abbrev RTh := N16 (N16 RV)
noncomputable def RTh.get (t : Nat) (R : RTh) : RV := N16.get (dig (t % 16)) (N16.get (dig (t / 16)) R)
noncomputable def RTh.put (t : Nat) (v : RV) (R : RTh) : RTh := N16.put (dig (t / 16)) (N16.put (dig (t % 16)) v (N16.get (dig (t / 16)) R)) R
inductive RT where
  | mk (lo hi : RTh)
noncomputable def RT.get (t : Nat) (R : RT) : RV := RT.rec (motive := fun _ => RV) (fun lo hi => Bool.rec (motive := fun _ => RV) (RTh.get t lo) (RTh.get (t - 256) hi) (Nat.ble 256 t)) R
noncomputable def RT.put (t : Nat) (v : RV) (R : RT) : RT := RT.rec (motive := fun _ => RT) (fun lo hi => Bool.rec (motive := fun _ => RT) (.mk (RTh.put t v lo) hi) (.mk lo (RTh.put (t - 256) v hi)) (Nat.ble 256 t)) R
noncomputable def RT.fn (R : RT) (t : Nat) : RV := bif Nat.ble 512 t then .bot else R.get t
noncomputable def RT.nil : RT := .mk (N16.all (N16.all .bot)) (N16.all (N16.all .bot))

theorem RTh.get_put {t u : Nat} (ht : t < 256) (hu : u < 256) (v : RV) (R : RTh) : RTh.get u (RTh.put t v R) = if u = t then v else RTh.get u R := by
  simp only [RTh.get, RTh.put, N16.get_put]
  by_cases e : u = t
  · subst e; simp [N16.get_put]
  · rw [if_neg e]
    by_cases h1 : dig (t / 16) = dig (u / 16)
    · have := dig_inj (by omega) (by omega) h1
      rw [if_pos h1, N16.get_put, if_neg (fun h2 => by have := dig_inj (by omega) (by omega) h2; omega), h1]
    · rw [if_neg h1]

theorem RT.get_put {t u : Nat} (ht : t < 512) (hu : u < 512) (v : RV) (R : RT) : (R.put t v).get u = if u = t then v else R.get u := by
  cases R with
  | mk lo hi =>
  unfold RT.get RT.put
  by_cases h1 : 256 ≤ t
  · rw [Nat.ble_eq_true_of_le h1]
    by_cases h2 : 256 ≤ u
    · rw [Nat.ble_eq_true_of_le h2]
      simp only
      rw [RTh.get_put (by omega) (by omega)]
      by_cases e : u = t
      · rw [if_pos e, if_pos (by omega)]
      · rw [if_neg e, if_neg (by omega)]
    · have hb : Nat.ble 256 u = false := by cases h : Nat.ble 256 u; rfl; exact absurd (Nat.le_of_ble_eq_true h) h2
      rw [hb]
      simp only
      rw [if_neg (by omega)]
  · have hb : Nat.ble 256 t = false := by cases h : Nat.ble 256 t; rfl; exact absurd (Nat.le_of_ble_eq_true h) h1
    rw [hb]
    by_cases h2 : 256 ≤ u
    · rw [Nat.ble_eq_true_of_le h2]
      simp only
      rw [if_neg (by omega)]
    · have hb : Nat.ble 256 u = false := by cases h : Nat.ble 256 u; rfl; exact absurd (Nat.le_of_ble_eq_true h) h2
      rw [hb]
      simp only
      rw [RTh.get_put (by omega) (by omega)]

theorem RT.fn_put {t : Nat} (ht : t < 512) (v : RV) (R : RT) : (R.put t v).fn = setR R.fn t v := by
  funext u
  unfold RT.fn setR
  by_cases hu : u < 512
  · have hb : Nat.ble 512 u = false := by cases h : Nat.ble 512 u; rfl; exact absurd (Nat.le_of_ble_eq_true h) (by omega)
    simp only [hb, cond_false]
    rw [RT.get_put ht hu]
  · have hb : Nat.ble 512 u = true := Nat.ble_eq_true_of_le (by omega)
    simp only [hb, cond_true]
    rw [if_neg (by omega)]
theorem RT.get_nil (t : Nat) : RT.nil.get t = .bot := by
  unfold RT.get RT.nil RTh.get
  cases Nat.ble 256 t <;> simp only [N16.get_all]
theorem RT.fn_nil : RT.nil.fn = fun _ => .bot := by
  funext t; unfold RT.fn; rw [RT.get_nil]; cases Nat.ble 512 t <;> rfl

/-- Objects: so many as a million. -/
abbrev OT := N16 (N16 (N16 (N16 (N16 (Option PObj)))))
noncomputable def OT.get (i : Nat) (O : OT) : Option PObj :=
  N16.get (dig (i % 16)) (N16.get (dig (i / 16 % 16)) (N16.get (dig (i / 256 % 16)) (N16.get (dig (i / 4096 % 16)) (N16.get (dig (i / 65536)) O))))
noncomputable def OT.put (i : Nat) (p : Option PObj) (O : OT) : OT :=
  N16.put (dig (i / 65536)) (N16.put (dig (i / 4096 % 16)) (N16.put (dig (i / 256 % 16)) (N16.put (dig (i / 16 % 16)) (N16.put (dig (i % 16)) p
    (N16.get (dig (i / 16 % 16)) (N16.get (dig (i / 256 % 16)) (N16.get (dig (i / 4096 % 16)) (N16.get (dig (i / 65536)) O)))))
    (N16.get (dig (i / 256 % 16)) (N16.get (dig (i / 4096 % 16)) (N16.get (dig (i / 65536)) O))))
    (N16.get (dig (i / 4096 % 16)) (N16.get (dig (i / 65536)) O))) (N16.get (dig (i / 65536)) O)) O
noncomputable def OT.fn (O : OT) (i : Nat) : Option PObj := bif Nat.ble 1048576 i then none else O.get i
noncomputable def OT.nil : OT := N16.all (N16.all (N16.all (N16.all (N16.all none))))

theorem OT.fn_put {i : Nat} (hi : i < 1048576) (p : Option PObj) (O : OT) : (O.put i p).fn = setT O.fn i p := by
  funext u
  unfold OT.fn setT
  by_cases hu : u < 1048576
  · have hb : Nat.ble 1048576 u = false := by cases h : Nat.ble 1048576 u; rfl; exact absurd (Nat.le_of_ble_eq_true h) (by omega)
    simp only [hb, cond_false, OT.get, OT.put, N16.get_put]
    by_cases e : u = i
    · subst e; simp [N16.get_put]
    · rw [if_neg e]
      by_cases h0 : dig (i / 65536) = dig (u / 65536)
      · have e0 := dig_inj (by omega) (by omega) h0
        rw [if_pos h0, N16.get_put, h0]
        by_cases h1 : dig (i / 4096 % 16) = dig (u / 4096 % 16)
        · have e1 := dig_inj (by omega) (by omega) h1
          rw [if_pos h1, N16.get_put, h1]
          by_cases h2 : dig (i / 256 % 16) = dig (u / 256 % 16)
          · have e2 := dig_inj (by omega) (by omega) h2
            rw [if_pos h2, N16.get_put, h2]
            by_cases h3 : dig (i / 16 % 16) = dig (u / 16 % 16)
            · have e3 := dig_inj (by omega) (by omega) h3
              rw [if_pos h3, N16.get_put, h3, if_neg (fun h4 => by have := dig_inj (by omega) (by omega) h4; omega)]
            · rw [if_neg h3]
          · rw [if_neg h2]
        · rw [if_neg h1]
      · rw [if_neg h0]
  · have hb : Nat.ble 1048576 u = true := Nat.ble_eq_true_of_le (by omega)
    simp only [hb, cond_true]
    rw [if_neg (by omega)]
theorem OT.fn_nil : OT.nil.fn = fun _ => none := by
  funext t; unfold OT.fn OT.nil OT.get; simp only [N16.get_all]; cases Nat.ble 1048576 t <;> rfl
end Go.Am

/-
  The closed machine: one table of objects for a whole run.
-/
namespace Go.Am
set_option linter.unusedSectionVars false
variable {P : Program} [Gl]

def allT : List Bool → Bool
  | [] => true
  | b :: r => match b with
    | true => allT r
    | false => false

theorem allT_spec : ∀ {l : List Bool}, allT l = true → ∀ b ∈ l, b = true
  | [], _, b, h => by simp at h
  | x :: r, h, b, hb => by
    simp only [allT] at h
    split at h
    · rcases List.mem_cons.1 hb with rfl | hb
      · rfl
      · exact allT_spec h b hb
    · cases h

abbrev VSt := RT × OT × Nat
abbrev VCall := Nat → List RV → OT → Nat → Option (RV × OT × Nat)

noncomputable def setAllV (O : OT) : List (Nat × PObj) → OT
  | [] => O
  | (i, p) :: r => setAllV (O.put i (some p)) r

noncomputable def putV (R : RT) (dst : Option Nat) (v : RV) : RT :=
  match dst with
  | none => R
  | some d => R.put d v

def smallV : List (Nat × PObj) → Bool
  | [] => true
  | (i, _) :: r => bif Nat.ble i 1048575 then smallV r else false

def bumpV (nx : Nat) : List (Nat × PObj) → Nat
  | [] => nx
  | u => nx + (u.length + 1)

/-- What an operation makes of a state, out of what it gives and changes. -/
noncomputable def resV (R : RT) (O : OT) (nx : Nat) (dst : Option Nat) (r : Option (Res × Bool)) : Option VSt :=
  match r with
  | none => none
  | some (res, _) => match res with
    | { val := v, upd := u, conds := c } => bif allT c then
        match u with
        | [] => some (putV R dst v, O, nx)
        | _ :: _ => bif smallV u then some (putV R dst v, setAllV O u, bumpV nx u) else none
      else none

noncomputable def vOp (cf : Cfg) (has : Nat → Bool) (call : VCall) (ops : Array Oper) (R : RT) (O : OT) (nx : Nat) (o : Oper) : Option VSt :=
  match guardOf R.fn ops o with
  | none => none
  | some false => some (putV R o.dst .und, O, nx)
  | some true => match o.op with
    | .move x => some (putV R o.dst (rvOf R.fn x), O, nx)
    | .assign x => some (putV R o.dst (rvOf R.fn x), O, nx)
    | .call c => match c.callee with
      | .value f => match rvOf R.fn f with
        | .clo (.func g) first caps => bif cf.callOk g then
            match (bif has g then exCallF cf.K (cf.byref g) O.fn nx g (first ++ c.args.toList.map (rvOf R.fn) ++ caps) else none) with
            | some res => resV R O nx o.dst (some (res, false))
            | none => match call g (first ++ c.args.toList.map (rvOf R.fn) ++ caps) O nx with
              | some (v, O', nx') => some (putV R o.dst v, O', nx')
              | none => none
          else none
        | _ => none
      | _ => resV R O nx o.dst (exOp cf R.fn O.fn nx o)
    | _ => resV R O nx o.dst (exOp cf R.fn O.fn nx o)

noncomputable def vOps (cf : Cfg) (has : Nat → Bool) (call : VCall) (ops : Array Oper) : List Oper → RT → OT → Nat → Option VSt
  | [], R, O, nx => some (R, O, nx)
  | o :: r, R, O, nx => match vOp cf has call ops R O nx o with
    | some (R', O', nx') => vOps cf has call ops r R' O' nx'
    | none => none

/-- A region whose order is drawn, and whose operations change nothing. -/
noncomputable def vQ (cf : Cfg) (ops : Array Oper) (O : Tab) : List Oper → RT → Option RT
  | [], R => some R
  | o :: r, R => match qVal cf ops [] R.fn O o with
    | none => none
    | some (v, c, _) => bif allT c then vQ cf ops O r (putV R o.dst v) else none

noncomputable def vE (cf : Cfg) (ops : Array Oper) (n z : Nat) : List Oper → RT → OT → List (List Nat × List Nat) → Option (RT × OT × List (List Nat × List Nat))
  | [], R, O, rs => some (R, O, rs)
  | o :: r, R, O, rs => match eVal cf ops [] R.fn (restr (foot R.fn O.fn o) O.fn) (slotE n z o) o with
    | none => none
    | some (v, u, c, _) => bif allT c && smallV u && freshB O.fn (foot R.fn O.fn o) (slotE n z o :: (slotE n z o + 1) :: keysU u) then
        vE cf ops n z r (putV R o.dst v) (setAllV O u) (rs ++ [(foot R.fn O.fn o ++ slotE n z o :: (slotE n z o + 1) :: keysU u, keysU u)])
      else none

def quietOp (o : Oper) : Bool := match o.op with
  | .call _ => match o.op with
    | .call c => match c.callee with
      | .builtin b => match b with
        | .append => false
        | .copy => false
        | .clear => false
        | .delete => false
        | _ => true
      | _ => false
    | _ => false
  | .alloc _ => false
  | .box _ _ => false
  | .buildSlice _ _ _ => false
  | .store _ _ _ => false
  | .makeSlice _ _ _ => false
  | .makeMap _ _ => false
  | .mapUpdate _ _ _ _ => false
  | .convert _ _ _ => false
  | _ => true

def dMin : List Oper → Nat → Nat
  | [], m => m
  | o :: r, m => match o.dst with
    | some d => dMin r (bif Nat.ble d m then d else m)
    | none => dMin r m
def dMax : List Oper → Nat → Nat
  | [], m => m
  | o :: r, m => match o.dst with
    | some d => dMax r (bif Nat.ble m d then d else m)
    | none => dMax r m

noncomputable def objsV : Nat → List PObj → OT → OT
  | _, [], O => O
  | i, p :: r, O => objsV (i + 1) r (O.put i (some p))

/-- What can be reached of a value and of the first objects, numbered anew. -/
def collect (m : Nat) (r : RV) (O : Tab) : Option (RV × List PObj) :=
  let ps := List.range m ++ (reach O 400 (r.refs 6 ++ (List.range m).flatMap fun i => objRefs (O i)) []).filter (fun i => Nat.ble m i)
  bif nodupB ps then
    match r.ren (fun i => idx i ps 0) 6, mapO (fun i => match O i with | some p => p.ren (fun i => idx i ps 0) | none => none) ps with
    | some r', some os => some (r', os)
    | _, _ => none
  else none

/-- A function that is run apart from all other objects. -/
noncomputable def konV (call : VCall) : Kon := fun f args objs =>
  bif Nat.ble objs.length 4000 then
    match call f args (objsV 0 objs OT.nil) 4096 with
    | some (r, O', _) => match collect objs.length r O'.fn with
      | some (r', os) => some (r', os, [])
      | none => none
    | none => none
  else none

noncomputable def vRegion (cf : Cfg) (has : Nat → Bool) (call : VCall) (n : Nat) (ops : Array Oper) (draw : Bool) (R : RT) (O : OT) (nx : Nat) : Option VSt :=
  bif guardsOk n ops then
    match draw with
    | false => vOps cf has call ops ops.toList R O nx
    | true => bif quietOk ops then
        bif ops.toList.all quietOp then
          match vQ cf ops O.fn ops.toList R with
          | some R' => some (R', O, nx)
          | none => none
        else match vE { cf with K := orK cf.K (konV call), byref := fun _ => true, diff := true } ops n (nx - 32 * dMin ops.toList n) ops.toList R O [] with
          | some (R', O', rs) => bif rowsOk rs (ancs ops.toList []) then some (R', O', nx + 32 * (dMax ops.toList 0 + 2 - dMin ops.toList n)) else none
          | none => none
      else none
  else none

noncomputable def argsV : Nat → List RV → RT → RT
  | _, [], R => R
  | i, v :: r, R => argsV (i + 1) r (R.put i v)

end Go.Am

/-
  The abstract machine: regions that draw their order, on registers and objects as functions.
-/
namespace Go.Am
set_option linter.unusedSectionVars false
variable {P : Program} [Gl] [Df]

theorem setD_ne {R : Nat → RV} {dst : Option Nat} {v : RV} {d : Nat} (h : dst ≠ some d) : setD R dst v d = R d := by
  cases dst with
  | none => rfl
  | some e =>
    have : d ≠ e := fun x => h (by rw [x])
    simp [setD, setR, this]
theorem setD_eq {R : Nat → RV} {dst : Option Nat} {v : RV} {d : Nat} (h : dst = some d) : setD R dst v d = v := by
  subst h; simp [setD, setR]

def runQF (cf : Cfg) (ops : Array Oper) (ov : Ov) (O : Tab) : List Oper → (Nat → RV) → List Bool → List (RV × RV) → Option ((Nat → RV) × List Bool × List (RV × RV))
  | [], R, cs, es => some (R, cs, es)
  | o :: r, R, cs, es => match qVal cf ops ov R O o with
    | none => none
    | some (v, c, e) => runQF cf ops ov O r (setD R o.dst v) (cs ++ c) (es ++ e)

theorem runQF_mono {cf : Cfg} {ops : Array Oper} {ov : Ov} {O : Tab} : ∀ (l : List Oper) (R R' : Nat → RV) (cs cs' : List Bool) (es es' : List (RV × RV)), runQF cf ops ov O l R cs es = some (R', cs', es') →
    (∀ c ∈ cs, c ∈ cs') ∧ (∀ e ∈ es, e ∈ es') ∧ (∀ d, (∀ o ∈ l, o.dst ≠ some d) → R' d = R d)
  | [], R, R', cs, cs', es, es', h => by
    simp [runQF] at h; obtain ⟨rfl, rfl, rfl⟩ := h; exact ⟨fun _ h => h, fun _ h => h, fun _ _ => rfl⟩
  | o :: r, R, R', cs, cs', es, es', h => by
    simp only [runQF] at h
    cases h1 : qVal cf ops ov R O o with
    | none => rw [h1] at h; simp at h
    | some p =>
      obtain ⟨v, c, e⟩ := p
      rw [h1] at h; simp only at h
      obtain ⟨q1, q2, q3⟩ := runQF_mono r _ _ _ _ _ _ h
      refine ⟨fun c hc => q1 c (by simp [hc]), fun e he => q2 e (by simp [he]), fun d hh => ?_⟩
      rw [q3 d (fun o ho => hh o (by simp [ho])), setD_ne (hh o (by simp))]

theorem runQF_at {cf : Cfg} {ops : Array Oper} {ov : Ov} {O : Tab} : ∀ (l : List Oper) (R0 R' : Nat → RV) (cs cs' : List Bool) (es es' : List (RV × RV)), runQF cf ops ov O l R0 cs es = some (R', cs', es') →
    (∀ (i j : Nat) (p q : Oper) (d : Nat), l[i]? = some p → l[j]? = some q → p.dst = some d → q.dst = some d → i = j) →
    ∀ (j : Nat) (o : Oper), l[j]? = some o → ∃ (R : Nat → RV) (v : RV) (c : List Bool) (e : List (RV × RV)), qVal cf ops ov R O o = some (v, c, e) ∧ (∀ x ∈ c, x ∈ cs') ∧ (∀ x ∈ e, x ∈ es') ∧
      (∀ d, o.dst = some d → R' d = v) ∧ (∀ d, (∀ (i : Nat) (p : Oper), i < j → l[i]? = some p → p.dst ≠ some d) → R d = R0 d) ∧
      (∀ (i : Nat) (p : Oper) (d : Nat), i < j → l[i]? = some p → p.dst = some d → R d = R' d)
  | [], R0, R', cs, cs', es, es', h, hnd, j, o, hj => by simp at hj
  | o0 :: r, R0, R', cs, cs', es, es', h, hnd, j, o, hj => by
    simp only [runQF] at h
    cases h1 : qVal cf ops ov R0 O o0 with
    | none => rw [h1] at h; simp at h
    | some p =>
      obtain ⟨v, c, e⟩ := p
      rw [h1] at h; simp only at h
      have hnd' : ∀ (i j : Nat) (p q : Oper) (d : Nat), r[i]? = some p → r[j]? = some q → p.dst = some d → q.dst = some d → i = j := fun i j p q d hi hj' hp hq => by
        have := hnd (i + 1) (j + 1) p q d (by simpa using hi) (by simpa using hj') hp hq; omega
      obtain ⟨m1, m2, m3⟩ := runQF_mono r _ _ _ _ _ _ h
      cases j with
      | zero =>
        simp at hj; subst hj
        refine ⟨R0, v, c, e, h1, fun x hx => m1 x (by simp [hx]), fun x hx => m2 x (by simp [hx]), fun d hd => ?_, fun d _ => rfl, fun i p d hi => by omega⟩
        rw [m3 d (fun q hq hqd => by
          obtain ⟨k, hk⟩ := List.mem_iff_getElem?.1 hq
          have := hnd 0 (k + 1) o0 q d rfl (by simpa using hk) hd hqd; omega)]
        exact setD_eq hd
      | succ j =>
        obtain ⟨R, v', c', e', k1, k2, k3, k4, k5, k6⟩ := runQF_at r _ R' _ _ _ _ h hnd' j o (by simpa using hj)
        refine ⟨R, v', c', e', k1, k2, k3, k4, fun d hd => ?_, fun i p d hi hp hpd => ?_⟩
        · rw [k5 d (fun i p hi hp => hd (i + 1) p (by omega) (by simpa using hp)), setD_ne (hd 0 o0 (by omega) rfl)]
        · cases i with
          | zero =>
            simp at hp; subst hp
            rw [k5 d (fun i q hi hq hqd => by
              have := hnd 0 (i + 1) o0 q d rfl (by simpa using hq) hpd hqd; omega)]
            rw [m3 d (fun q hq hqd => by
              obtain ⟨k, hk⟩ := List.mem_iff_getElem?.1 hq
              have := hnd 0 (k + 1) o0 q d rfl (by simpa using hk) hpd hqd; omega)]
          | succ i => exact k6 i p d (by omega) (by simpa using hp) hpd

theorem quiet_anyF {cf : Cfg} (hcf : CfOk P cf) {ops : Array Oper} {ov : Ov} {s : SSt} {R0 R' : Nat → RV} {cs : List Bool} {es : List (RV × RV)} {m : Nat} {κ0 : Kap} {w0 : World} {φ0 : Phi}
    (hq : quietOk ops = true) (hg : guardsOk s.n ops = true) (hs : s.R = R0) (hrun : runQF cf ops ov s.O ops.toList R0 [] [] = some (R', cs, es)) (hc : ∀ c ∈ cs, c = true) (he : ∀ e ∈ es, RVle e.1 e.2) :
    (∀ (fuel : Nat) (L : Array Bool) (κ : Kap) (φ : Phi) (w : World) (a : Act), L.size = ops.size → L.toList.countP (· == false) = fuel →
      (∀ (j : Nat) (o : Oper), ops[j]? = some o → L.getD j false = true → ∀ e ∈ o.after, Region.binds .any e = true → L.getD e.on false = true) → FRel κ φ w { s with R := mixR ops s.R R' L } a →
      Fr κ0 w0 κ w → KpM m φ0 s.O φ s.O →
      wpAny P .any ops (fun e a' w' => e = .normal ∧ ∃ κ' φ', FRel κ' φ' w' { s with R := R' } a' ∧ Fr κ0 w0 κ' w' ∧ KpM m φ0 s.O φ' s.O) fuel L a w) := by
  have hnd : ∀ (i j : Nat) (p q : Oper) (d : Nat), ops.toList[i]? = some p → ops.toList[j]? = some q → p.dst = some d → q.dst = some d → i = j := by
    intro i j p q d hi hj hp hqd
    rcases ((quietOk_spec hq (j := j) (o := q) (by simpa using hj)).2 i p d (by simpa using hi) hp).1 with h | h
    · exact h
    · exact absurd hqd h
  have hat := runQF_at ops.toList R0 R' [] cs [] es hrun hnd
  have hout := (runQF_mono ops.toList R0 R' [] cs [] es hrun).2.2
  have full : ∀ (L : Array Bool), L.size = ops.size → (∀ i, i < ops.size → L.getD i true = true) → mixR ops s.R R' L = R' := by
    intro L hL hall
    funext d
    unfold mixR
    split
    · rfl
    · rename_i hne
      rw [hs, hout d (fun o ho hd => hne ?_)]
      obtain ⟨i, hi⟩ := List.mem_iff_getElem?.1 ho
      have hi' : ops[i]? = some o := by simpa using hi
      have hlt := (Array.getElem?_eq_some_iff.1 hi').1
      have hlt2 : i < L.size := by omega
      have := hall i hlt
      exact ⟨i, o, hi', hd, by simp [Array.getD, hlt2] at this ⊢; exact this⟩
  intro fuel
  induction fuel with
  | zero =>
    intro L κ φ w a hL hcnt hcl F hR hK
    have hall := all_listed hcnt
    rw [full L hL (fun i hi => hall i (by omega))] at F
    refine ⟨?_, rfl, κ, φ, F, hR, hK⟩
    cases hr : Region.ready .any ops L with
    | nil => rfl
    | cons i r =>
      obtain ⟨o, _, h1, h2, _⟩ := mem_ready (md := .any) (ops := ops) (L := L) (i := i) (by rw [hr]; simp)
      rw [hall i (by omega)] at h2; cases h2
  | succ fuel ih =>
    intro L κ φ w a hL hcnt hcl F hR hK
    refine ⟨fun hr => ?_, fun j hj => ?_⟩
    · have hall := ready_nil hL (fun j o ho => (quietOk_spec hq ho).1) hr
      rw [full L hL hall] at F
      exact ⟨rfl, κ, φ, F, hR, hK⟩
    · obtain ⟨o, ho, hjn, hlj, hedges⟩ := mem_ready hj
      obtain ⟨R, v, c, e, k1, k2, k3, k4, k5, k6⟩ := hat j o (by simpa using ho)
      obtain ⟨s1, s2⟩ := quietOk_spec hq ho
      -- what it looks at is as it was in the region's own order
      have same : ∀ d, d ∈ looks o ops → mixR ops s.R R' L d = R d := by
        intro d hd
        by_cases hw : ∃ (i : Nat) (p : Oper), ops[i]? = some p ∧ p.dst = some d
        · obtain ⟨i, p, hi, hp⟩ := hw
          rcases (s2 i p d hi hp).2 hd with ⟨hij, ed, he1, he2, he3⟩ | ⟨hij, ed, he1, he2, he3⟩
          · have hli : L.getD i false = true := by rw [← he2]; exact hedges ed he1 he3
            unfold mixR
            rw [if_pos ⟨i, p, hi, hp, hli⟩]
            exact (k6 i p d hij (by simpa using hi) hp).symm
          · have hljf : L.getD j false = false := by
              have : j < L.size := by omega
              simp [Array.getD, this] at hlj ⊢; exact hlj
            have only : ∀ (i' : Nat) (p' : Oper), ops[i']? = some p' → p'.dst = some d → i' = i := fun i' p' h1 h2 => hnd i' i p' p d (by simpa using h1) (by simpa using hi) h2 hp
            unfold mixR
            rw [if_neg (fun ⟨i', p', h1, h2, h3⟩ => by
              have e := only i' p' h1 h2
              subst e
              rw [h1] at hi; injection hi with hi; subst hi
              have := hcl i' p' h1 h3 ed he1 he3
              rw [he2, hljf] at this; cases this), hs]
            exact (k5 d (fun i' p' h0 h1 h2 => by have := only i' p' (by simpa using h1) h2; omega)).symm
        · unfold mixR
          rw [if_neg (fun ⟨i, p, hi, hp, _⟩ => hw ⟨i, p, hi, hp⟩), hs]
          exact (k5 d (fun i p _ hp hpd => hw ⟨i, p, by simpa using hp, hpd⟩)).symm
      have hqv : qVal cf ops ov (mixR ops s.R R' L) s.O o = some (v, c, e) := by
        rw [← k1]
        have h1 : guardOf (mixR ops s.R R' L) ops o = guardOf R ops o := by
          unfold guardOf
          cases hgu : o.guard with
          | none => rfl
          | some p =>
            obtain ⟨g, want⟩ := p
            simp only
            cases hog : ops[g]? with
            | none => rfl
            | some gg =>
              simp only
              cases hgd : gg.dst with
              | none => rfl
              | some d =>
                simp only
                rw [same d (by simp only [looks, List.mem_append]; right; rw [hgu]; simp only [hog, hgd]; simp)]
        have h2 : exOp cf (mixR ops s.R R' L) s.O 0 o = exOp cf R s.O 0 o := exOp_congr fun x hx => rvOf_congr fun d hd => by
          subst hd
          refine same d ?_
          simp only [looks, List.mem_append, List.mem_filterMap]
          left
          exact ⟨.tmp d, by simpa using hx, rfl⟩
        unfold qVal
        rw [h1, h2]
      refine qVal_wp hcf F hqv (fun x hx => hc x (k2 x hx)) (fun x hx => he x (k3 x hx)) ho (guardsOk_spec hg) (fun a' w' κ' φ' g1 g2 g3 => ?_)
      have hset : setD (mixR ops s.R R' L) o.dst v = mixR ops s.R R' (L.setIfInBounds j true) := by
        funext d
        have hget : ∀ i, (L.setIfInBounds j true).getD i false = if i = j then true else L.getD i false := by
          intro i
          simp only [Array.getD_eq_getD_getElem?, Array.getElem?_setIfInBounds]
          by_cases e : i = j
          · subst e; have : i < L.size := by omega
            simp [this]
          · have : ¬ j = i := fun h => e h.symm
            simp [e, this]
        cases hd : o.dst with
        | none =>
          simp only [setD]
          unfold mixR
          congr 1
          apply propext
          constructor
          · rintro ⟨i, p, h1, h2, h3⟩
            exact ⟨i, p, h1, h2, by rw [hget]; split; rfl; exact h3⟩
          · rintro ⟨i, p, h1, h2, h3⟩
            rw [hget] at h3
            by_cases e : i = j
            · subst e; rw [ho] at h1; injection h1 with h1; subst h1; rw [hd] at h2; cases h2
            · rw [if_neg e] at h3; exact ⟨i, p, h1, h2, h3⟩
        | some d0 =>
          simp only [setD, setR]
          by_cases e0 : d = d0
          · subst e0
            rw [if_pos rfl]
            unfold mixR
            rw [if_pos ⟨j, o, ho, hd, by rw [hget]; simp⟩, k4 d hd]
          · rw [if_neg e0]
            unfold mixR
            congr 1
            apply propext
            constructor
            · rintro ⟨i, p, h1, h2, h3⟩
              exact ⟨i, p, h1, h2, by rw [hget]; split; rfl; exact h3⟩
            · rintro ⟨i, p, h1, h2, h3⟩
              rw [hget] at h3
              by_cases e : i = j
              · subst e; rw [ho] at h1; injection h1 with h1; subst h1; rw [hd] at h2; injection h2 with h2; exact absurd h2.symm e0
              · rw [if_neg e] at h3; exact ⟨i, p, h1, h2, h3⟩
      have g1' : FRel κ' φ' w' { s with R := mixR ops s.R R' (L.setIfInBounds j true) } a' := by rw [← hset]; exact g1
      have hc2 := count_set (L := L) (i := j) (by omega) hlj
      have hget : ∀ i, (L.setIfInBounds j true).getD i false = if i = j then true else L.getD i false := by
        intro i
        simp only [Array.getD_eq_getD_getElem?, Array.getElem?_setIfInBounds]
        by_cases e : i = j
        · subst e; have : i < L.size := by omega
          simp [this]
        · have : ¬ j = i := fun h => e h.symm
          simp [e, this]
      have hcl' : ∀ (j' : Nat) (o' : Oper), ops[j']? = some o' → (L.setIfInBounds j true).getD j' false = true → ∀ e ∈ o'.after, Region.binds .any e = true → (L.setIfInBounds j true).getD e.on false = true := by
        intro j' o' ho' hl' e he' hb'
        rw [hget] at hl' ⊢
        split
        · rfl
        · by_cases ej : j' = j
          · subst ej; rw [ho] at ho'; injection ho' with ho'; subst ho'; exact hedges e he' hb'
          · rw [if_neg ej] at hl'; exact hcl j' o' ho' hl' e he' hb'
      exact ih (L.setIfInBounds j true) κ' φ' w' a' (by simpa using hL) (by omega) hcl' g1' (hR.trans g2) (hK.trans (g3.m m))


def runEF (cf : Cfg) (ops : Array Oper) (ov : Ov) (n z : Nat) : List Oper → (Nat → RV) → Tab → List Bool → List (RV × RV) → List (List Nat × List Nat) → Option ((Nat → RV) × Tab × List Bool × List (RV × RV) × List (List Nat × List Nat))
  | [], R, O, cs, es, rs => some (R, O, cs, es, rs)
  | o :: r, R, O, cs, es, rs =>
    match eVal cf ops ov R (restr (foot R O o) O) (slotE n z o) o with
    | none => none
    | some (v, u, c, e) =>
      bif freshB O (foot R O o) (slotE n z o :: (slotE n z o + 1) :: keysU u) then
        runEF cf ops ov n z r (setD R o.dst v) (updO O u) (cs ++ c) (es ++ e) (rs ++ [(foot R O o ++ slotE n z o :: (slotE n z o + 1) :: keysU u, keysU u)])
      else none

theorem runEF_mono {cf : Cfg} {ops : Array Oper} {ov : Ov} {n z : Nat} : ∀ (l : List Oper) (R R' : Nat → RV) (O O' : Tab) (cs cs' : List Bool) (es es' : List (RV × RV)) (rs rs' : List (List Nat × List Nat)),
    runEF cf ops ov n z l R O cs es rs = some (R', O', cs', es', rs') → (∀ c ∈ cs, c ∈ cs') ∧ (∀ e ∈ es, e ∈ es') ∧ (∀ d, (∀ o ∈ l, o.dst ≠ some d) → R' d = R d)
  | [], R, R', O, O', cs, cs', es, es', rs, rs', h => by
    simp [runEF] at h; obtain ⟨rfl, rfl, rfl, rfl, rfl⟩ := h; exact ⟨fun _ h => h, fun _ h => h, fun _ _ => rfl⟩
  | o :: r, R, R', O, O', cs, cs', es, es', rs, rs', h => by
    simp only [runEF] at h
    split at h
    · simp at h
    · rename_i v u c e h1
      cases hb0 : (freshB O (foot R O o) (slotE n z o :: (slotE n z o + 1) :: keysU u)) with
      | false => rw [hb0] at h; simp at h
      | true =>
        rw [hb0] at h; simp only [cond_true] at h
        obtain ⟨q1, q2, q3⟩ := runEF_mono r _ _ _ _ _ _ _ _ _ _ h
        refine ⟨fun c hc => q1 c (by simp [hc]), fun e he => q2 e (by simp [he]), fun d hh => ?_⟩
        rw [q3 d (fun o ho => hh o (by simp [ho])), setD_ne (hh o (by simp))]

theorem runEF_at {cf : Cfg} {ops : Array Oper} {ov : Ov} {n z : Nat} : ∀ (l : List Oper) (R0 R' : Nat → RV) (O0 O' : Tab) (cs cs' : List Bool) (es es' : List (RV × RV)) (rs rs' : List (List Nat × List Nat)),
    runEF cf ops ov n z l R0 O0 cs es rs = some (R', O', cs', es', rs') →
    (∀ (i j : Nat) (p q : Oper) (d : Nat), l[i]? = some p → l[j]? = some q → p.dst = some d → q.dst = some d → i = j) →
    ∃ (us : List (List (Nat × PObj))) (rr : List (List Nat × List Nat)), us.length = l.length ∧ rs' = rs ++ rr ∧ rr.length = l.length ∧ O' = us.foldl updO O0 ∧
    ∀ (j : Nat) (o : Oper), l[j]? = some o → ∃ (R : Nat → RV) (F : List Nat) (v : RV) (u : List (Nat × PObj)) (c : List Bool) (e : List (RV × RV)),
      eVal cf ops ov R (restr F ((us.take j).foldl updO O0)) (slotE n z o) o = some (v, u, c, e) ∧ us[j]? = some u ∧ rr[j]? = some (F ++ slotE n z o :: (slotE n z o + 1) :: keysU u, keysU u) ∧
      freshB ((us.take j).foldl updO O0) F (slotE n z o :: (slotE n z o + 1) :: keysU u) = true ∧ (∀ x ∈ c, x ∈ cs') ∧ (∀ x ∈ e, x ∈ es') ∧
      (∀ d, o.dst = some d → R' d = v) ∧ (∀ d, (∀ (i : Nat) (p : Oper), i < j → l[i]? = some p → p.dst ≠ some d) → R d = R0 d) ∧
      (∀ (i : Nat) (p : Oper) (d : Nat), i < j → l[i]? = some p → p.dst = some d → R d = R' d)
  | [], R0, R', O0, O', cs, cs', es, es', rs, rs', h, hnd => by
    simp [runEF] at h; obtain ⟨rfl, rfl, rfl, rfl, rfl⟩ := h
    exact ⟨[], [], rfl, by simp, rfl, rfl, fun j o hj => by simp at hj⟩
  | o0 :: r, R0, R', O0, O', cs, cs', es, es', rs, rs', h, hnd => by
    simp only [runEF] at h
    split at h
    · simp at h
    · rename_i v u c e h1
      cases hb0 : (freshB O0 (foot R0 O0 o0) (slotE n z o0 :: (slotE n z o0 + 1) :: keysU u)) with
      | false => rw [hb0] at h; simp at h
      | true =>
        rw [hb0] at h; simp only [cond_true] at h
        have hnd' : ∀ (i j : Nat) (p q : Oper) (d : Nat), r[i]? = some p → r[j]? = some q → p.dst = some d → q.dst = some d → i = j := fun i j p q d hi hj' hp hq => by
          have := hnd (i + 1) (j + 1) p q d (by simpa using hi) (by simpa using hj') hp hq; omega
        obtain ⟨m1, m2, m3⟩ := runEF_mono r _ _ _ _ _ _ _ _ _ _ h
        obtain ⟨us, rr, a1, a2, a3, a4, a5⟩ := runEF_at r _ R' _ _ _ _ _ _ _ _ h hnd'
        refine ⟨u :: us, (foot R0 O0 o0 ++ slotE n z o0 :: (slotE n z o0 + 1) :: keysU u, keysU u) :: rr, by simp [a1], by rw [a2]; simp, by simp [a3], by rw [a4]; rfl, fun j o hj => ?_⟩
        cases j with
        | zero =>
          simp at hj; subst hj
          refine ⟨R0, foot R0 O0 o0, v, u, c, e, h1, rfl, rfl, hb0, fun x hx => m1 x (by simp [hx]), fun x hx => m2 x (by simp [hx]), fun d hd => ?_, fun d _ => rfl, fun i p d hi => by omega⟩
          rw [m3 d (fun q hq hqd => by
            obtain ⟨k, hk⟩ := List.mem_iff_getElem?.1 hq
            have := hnd 0 (k + 1) o0 q d rfl (by simpa using hk) hd hqd; omega)]
          exact setD_eq hd
        | succ j =>
          obtain ⟨R, F, v', u', c', e', k1, k2, k3, k4, k5, k6, k7, k8, k9⟩ := a5 j o (by simpa using hj)
          refine ⟨R, F, v', u', c', e', by simpa using k1, by simpa using k2, by simpa using k3, by simpa using k4, k5, k6, k7, fun d hd => ?_, fun i p d hi hp hpd => ?_⟩
          · rw [k8 d (fun i p hi hp => hd (i + 1) p (by omega) (by simpa using hp)), setD_ne (hd 0 o0 (by omega) rfl)]
          · cases i with
            | zero =>
              simp at hp; subst hp
              rw [k8 d (fun i q hi hq hqd => by
                have := hnd 0 (i + 1) o0 q d rfl (by simpa using hq) hpd hqd; omega)]
              rw [m3 d (fun q hq hqd => by
                obtain ⟨k, hk⟩ := List.mem_iff_getElem?.1 hq
                have := hnd 0 (k + 1) o0 q d rfl (by simpa using hk) hpd hqd; omega)]
            | succ i => exact k9 i p d (by omega) (by simpa using hp) hpd

theorem eff_anyF {cf : Cfg} (hcf : CfOk P cf) {ops : Array Oper} {ov : Ov} {s : SSt} {R0 R' : Nat → RV} {O0 O' : Tab} {cs : List Bool} {es : List (RV × RV)} {rs : List (List Nat × List Nat)} {z m : Nat} {κ : Kap} {φ : Phi} {w : World} {a : Act}
    (hq : quietOk ops = true) (hg : guardsOk s.n ops = true) (hs : s.R = R0) (hsO : s.O = O0) (hrun : runEF cf ops ov s.n z ops.toList R0 O0 [] [] [] = some (R', O', cs, es, rs))
    (hrows : rowsOk rs (ancs ops.toList []) = true) (hc : ∀ c ∈ cs, c = true) (he : ∀ e ∈ es, RVle e.1 e.2) (F0 : FRel κ φ w s a) :
    wpAny P .any ops (fun e a' w' => e = .normal ∧ ∃ κ' φ', FRel κ' φ' w' { s with R := R', O := O' } a' ∧ Fr κ w κ' w' ∧ KpM m φ s.O φ' O') ops.size (Array.replicate ops.size false) a w := by
  have hnd : ∀ (i j : Nat) (p q : Oper) (d : Nat), ops.toList[i]? = some p → ops.toList[j]? = some q → p.dst = some d → q.dst = some d → i = j := by
    intro i j p q d hi hj hp hqd
    rcases ((quietOk_spec hq (j := j) (o := q) (by simpa using hj)).2 i p d (by simpa using hi) hp).1 with h | h
    · exact h
    · exact absurd hqd h
  obtain ⟨us, rr, ul, hrs, rl, hob, hat⟩ := runEF_at ops.toList R0 R' O0 O' [] cs [] es [] rs hrun hnd
  rw [List.nil_append] at hrs
  subst hrs
  have hout := (runEF_mono ops.toList R0 R' O0 O' [] cs [] es [] rs hrun).2.2
  have hul : us.length = ops.size := by simpa using ul
  have hanc := ancs_spec (ops := ops) ops.toList [] (fun i o hi => by simpa using hi) (fun i k h => by simp at h)
  have full : ∀ (L : Array Bool), L.size = ops.size → (∀ i, i < ops.size → L.getD i true = true) → mixR ops s.R R' L = R' ∧ mixT (fun i => L.getD i false) 0 us s.O = O' := by
    intro L hL hall
    have hall2 : ∀ i, i < ops.size → L.getD i false = true := fun i hi => by
      have hlt2 : i < L.size := by omega
      have := hall i hi
      simp [Array.getD, hlt2] at this ⊢; exact this
    constructor
    · funext d
      unfold mixR
      split
      · rfl
      · rename_i hne
        rw [hs, hout d (fun o ho hd => hne ?_)]
        obtain ⟨i, hi⟩ := List.mem_iff_getElem?.1 ho
        have hi' : ops[i]? = some o := by simpa using hi
        exact ⟨i, o, hi', hd, hall2 i (Array.getElem?_eq_some_iff.1 hi').1⟩
    · rw [hob, hsO]
      funext i
      have e1 := mixT_take us 0 us.length O0
      rw [List.take_length] at e1
      rw [← e1]
      refine mixT_agree us 0 _ _ rfl (fun j u hu _ => ?_)
      have hj := (List.getElem?_eq_some_iff.1 hu).1
      rw [Nat.zero_add, hall2 j (by omega)]
      simp [hj]
  have main : ∀ (fuel : Nat) (L : Array Bool) (κ1 : Kap) (φ1 : Phi) (w1 : World) (a1 : Act), L.size = ops.size → L.toList.countP (· == false) = fuel →
      (∀ (j : Nat) (o : Oper), ops[j]? = some o → L.getD j false = true → ∀ e ∈ o.after, Region.binds .any e = true → L.getD e.on false = true) →
      FRel κ1 φ1 w1 { s with R := mixR ops s.R R' L, O := mixT (fun i => L.getD i false) 0 us s.O } a1 →
      Fr κ w κ1 w1 → KpM m φ s.O φ1 (mixT (fun i => L.getD i false) 0 us s.O) →
      wpAny P .any ops (fun e a' w' => e = .normal ∧ ∃ κ' φ', FRel κ' φ' w' { s with R := R', O := O' } a' ∧ Fr κ w κ' w' ∧ KpM m φ s.O φ' O') fuel L a1 w1 := by
    intro fuel
    induction fuel with
    | zero =>
      intro L κ1 φ1 w1 a1 hL hcnt hcl F hR hK
      have hall := all_listed hcnt
      obtain ⟨f1, f2⟩ := full L hL (fun i hi => hall i (by omega))
      rw [f1, f2] at F
      rw [f2] at hK
      refine ⟨?_, rfl, κ1, φ1, F, hR, hK⟩
      cases hr : Region.ready .any ops L with
      | nil => rfl
      | cons i r =>
        obtain ⟨o, _, h1, h2, _⟩ := mem_ready (md := .any) (ops := ops) (L := L) (i := i) (by rw [hr]; simp)
        rw [hall i (by omega)] at h2; cases h2
    | succ fuel ih =>
      intro L κ1 φ1 w1 a1 hL hcnt hcl F hR hK
      refine ⟨fun hr => ?_, fun j hj => ?_⟩
      · have hall := ready_nil hL (fun j o ho => (quietOk_spec hq ho).1) hr
        obtain ⟨f1, f2⟩ := full L hL hall
        rw [f1, f2] at F
        rw [f2] at hK
        exact ⟨rfl, κ1, φ1, F, hR, hK⟩
      · obtain ⟨o, ho, hjn, hlj, hedges⟩ := mem_ready hj
        obtain ⟨R, Fj, v, u, c, e, k1, k2, k3, k4, kc, ke, k5, k6, k7⟩ := hat j o (by simpa using ho)
        obtain ⟨s1, s2⟩ := quietOk_spec hq ho
        have hljf : L.getD j false = false := by
          have : j < L.size := by omega
          simp [Array.getD, this] at hlj ⊢; exact hlj
        -- what it looks at is as it was in the region's own order
        have same : ∀ d, d ∈ looks o ops → mixR ops s.R R' L d = R d := by
          intro d hd
          by_cases hw : ∃ (i : Nat) (p : Oper), ops[i]? = some p ∧ p.dst = some d
          · obtain ⟨i, p, hi, hp⟩ := hw
            rcases (s2 i p d hi hp).2 hd with ⟨hij, ed, he1, he2, he3⟩ | ⟨hij, ed, he1, he2, he3⟩
            · have hli : L.getD i false = true := by rw [← he2]; exact hedges ed he1 he3
              unfold mixR
              rw [if_pos ⟨i, p, hi, hp, hli⟩]
              exact (k7 i p d hij (by simpa using hi) hp).symm
            · have only : ∀ (i' : Nat) (p' : Oper), ops[i']? = some p' → p'.dst = some d → i' = i := fun i' p' h1 h2 => hnd i' i p' p d (by simpa using h1) (by simpa using hi) h2 hp
              unfold mixR
              rw [if_neg (fun ⟨i', p', h1, h2, h3⟩ => by
                have e := only i' p' h1 h2
                subst e
                rw [h1] at hi; injection hi with hi; subst hi
                have := hcl i' p' h1 h3 ed he1 he3
                rw [he2, hljf] at this; cases this), hs]
              exact (k6 d (fun i' p' h0 h1 h2 => by have := only i' p' (by simpa using h1) h2; omega)).symm
          · unfold mixR
            rw [if_neg (fun ⟨i, p, hi, hp, _⟩ => hw ⟨i, p, hi, hp⟩), hs]
            exact (k6 d (fun i p _ hp hpd => hw ⟨i, p, by simpa using hp, hpd⟩)).symm
        have guardEq : guardOf (mixR ops s.R R' L) ops o = guardOf R ops o := by
          unfold guardOf
          cases hgu : o.guard with
          | none => rfl
          | some p =>
            obtain ⟨g, want⟩ := p
            simp only
            cases hog : ops[g]? with
            | none => rfl
            | some gg =>
              simp only
              cases hgd : gg.dst with
              | none => rfl
              | some d =>
                simp only
                rw [same d (by simp only [looks, List.mem_append]; right; rw [hgu]; simp only [hog, hgd]; simp)]
        have regEq : ∀ x ∈ o.op.operands, rvOf R x = rvOf (mixR ops s.R R' L) x := fun x hx => rvOf_congr fun d hd => by
          subst hd
          refine (same d ?_).symm
          simp only [looks, List.mem_append, List.mem_filterMap]
          left
          exact ⟨.tmp d, by simpa using hx, rfl⟩
        -- who writes what it touches is bound to it
        have rowAt : ∀ (x : Nat) (u' : List (Nat × PObj)), us[x]? = some u' → ∃ tx, rs[x]? = some (tx, keysU u') ∧ ∀ i ∈ keysU u', i ∈ tx := by
          intro x u' hu'
          have hx := (List.getElem?_eq_some_iff.1 hu').1
          have hox : ops.toList[x]? = some ops.toList[x] := by simp [show x < ops.size by omega]
          obtain ⟨_, F', _, u2, _, _, _, g2, g3, _⟩ := hat x _ hox
          rw [hu'] at g2; injection g2 with g2; subst g2
          exact ⟨_, g3, fun i hi => by simp [hi]⟩
        have before : ∀ (x : Nat) (u' : List (Nat × PObj)) (i : Nat), x < j → us[x]? = some u' → i ∈ keysU u' → i ∈ (Fj ++ slotE s.n z o :: (slotE s.n z o + 1) :: keysU u) → L.getD x false = true := by
          intro x u' i hxj hu' hi ht
          obtain ⟨tx, g1, _⟩ := rowAt x u' hu'
          exact (hanc j x (rowsOk_spec hrows k3 g1 hxj (.inl (hits_of hi ht)))).ready (L := fun i => L.getD i false) hcl (fun o' ho' e he hb => by
            rw [ho] at ho'; injection ho' with ho'; subst ho'; exact hedges e he hb)
        have after : ∀ (x : Nat) (u' : List (Nat × PObj)) (i : Nat), j < x → us[x]? = some u' → i ∈ keysU u' → i ∈ (Fj ++ slotE s.n z o :: (slotE s.n z o + 1) :: keysU u) → L.getD x false = false := by
          intro x u' i hxj hu' hi ht
          obtain ⟨tx, g1, _⟩ := rowAt x u' hu'
          cases hlx : L.getD x false with
          | false => rfl
          | true =>
            have := (hanc x j (rowsOk_spec hrows g1 k3 hxj (.inr (hits_of hi ht)))).done (L := fun i => L.getD i false) hcl hlx
            rw [hljf] at this; cases this
        have agree : ∀ i, i ∈ (Fj ++ slotE s.n z o :: (slotE s.n z o + 1) :: keysU u) → mixT (fun i => L.getD i false) 0 us s.O i = (us.take j).foldl updO O0 i := by
          intro i hi
          have e1 := mixT_take us 0 j O0
          rw [← e1, hsO]
          refine mixT_agree us 0 _ _ rfl (fun x u' hu' hk => ?_)
          rw [Nat.zero_add, Nat.zero_add]
          rcases Nat.lt_trichotomy x j with h | h | h
          · rw [before x u' i h hu' hk hi]; simp [h]
          · subst h; rw [hljf]; simp
          · rw [after x u' i h hu' hk hi]
            have : ¬ x < j := by omega
            simp [this]
        have agreeR : ∀ i, i ∈ (slotE s.n z o :: (slotE s.n z o + 1) :: keysU u) → mixT (fun i => L.getD i false) 0 us s.O i = restr Fj ((us.take j).foldl updO O0) i := by
          intro i hi
          rw [agree i (List.mem_append.2 (.inr hi))]
          cases hF : (Fj.any fun j => Nat.beq j i) with
          | true => rw [restr_in hF]
          | false =>
            rw [restr_out hF]
            have := List.all_eq_true.1 k4 i hi
            rw [hF] at this
            simpa using this
        have hev : eVal cf ops ov (mixR ops s.R R' L) (mixT (fun i => L.getD i false) 0 us s.O) (slotE s.n z o) o = some (v, u, c, e) := by
          refine eVal_mono k1 guardEq regEq (fun i p hp => ?_) (agreeR _ (by simp)) (agreeR _ (by simp)) (fun p hp => agreeR _ (by simp [keysU]; exact .inr (.inr ⟨p.2, hp⟩)))
          cases hF : (Fj.any fun j => Nat.beq j i) with
          | true =>
            rw [restr_in hF] at hp
            rw [agree i (List.mem_append.2 (.inl (any_mem hF)))]; exact hp
          | false => rw [restr_out hF] at hp; cases hp
        refine eVal_wp hcf F hev (fun x hx => hc x (kc x hx)) (fun x hx => he x (ke x hx)) ho (guardsOk_spec hg) (fun a' w' κ' φ' g1 g2 g3 => ?_)
        have hget : ∀ i, (L.setIfInBounds j true).getD i false = if i = j then true else L.getD i false := by
          intro i
          simp only [Array.getD_eq_getD_getElem?, Array.getElem?_setIfInBounds]
          by_cases e : i = j
          · subst e; have : i < L.size := by omega
            simp [this]
          · have : ¬ j = i := fun h => e h.symm
            simp [e, this]
        have hset : setD (mixR ops s.R R' L) o.dst v = mixR ops s.R R' (L.setIfInBounds j true) := by
          funext d
          cases hd : o.dst with
          | none =>
            simp only [setD]
            unfold mixR
            congr 1
            apply propext
            constructor
            · rintro ⟨i, p, h1, h2, h3⟩
              exact ⟨i, p, h1, h2, by rw [hget]; split; rfl; exact h3⟩
            · rintro ⟨i, p, h1, h2, h3⟩
              rw [hget] at h3
              by_cases e : i = j
              · subst e; rw [ho] at h1; injection h1 with h1; subst h1; rw [hd] at h2; cases h2
              · rw [if_neg e] at h3; exact ⟨i, p, h1, h2, h3⟩
          | some d0 =>
            simp only [setD, setR]
            by_cases e0 : d = d0
            · subst e0
              rw [if_pos rfl]
              unfold mixR
              rw [if_pos ⟨j, o, ho, hd, by rw [hget]; simp⟩, k5 d hd]
            · rw [if_neg e0]
              unfold mixR
              congr 1
              apply propext
              constructor
              · rintro ⟨i, p, h1, h2, h3⟩
                exact ⟨i, p, h1, h2, by rw [hget]; split; rfl; exact h3⟩
              · rintro ⟨i, p, h1, h2, h3⟩
                rw [hget] at h3
                by_cases e : i = j
                · subst e; rw [ho] at h1; injection h1 with h1; subst h1; rw [hd] at h2; injection h2 with h2; exact absurd h2.symm e0
                · rw [if_neg e] at h3; exact ⟨i, p, h1, h2, h3⟩
        have hmix : mixT (fun i => (L.setIfInBounds j true).getD i false) 0 us s.O = updO (mixT (fun i => L.getD i false) 0 us s.O) u := by
          refine mixT_insert us 0 j u s.O k2 (by rw [Nat.zero_add]; exact hljf) (by rw [Nat.zero_add, hget]; simp) (fun x hx => by rw [hget, if_neg (by omega)]) (fun x u' hx hu' hl i hi hi' => ?_)
          rw [Nat.zero_add] at hl
          rw [after x u' i hx hu' hi' (by simp [hi])] at hl; cases hl
        have hc2 := count_set (L := L) (i := j) (by omega) hlj
        refine ih (L.setIfInBounds j true) κ' φ' w' a' (by simpa using hL) (by omega) (fun i o' ho' hi e' he' hb' => ?_) ?_ (hR.trans g2) ?_
        · rw [hget] at hi ⊢
          by_cases ej : e'.on = j
          · rw [if_pos ej]
          · rw [if_neg ej]
            by_cases ei : i = j
            · subst ei; rw [ho] at ho'; injection ho' with ho'; subst ho'; exact hedges e' he' hb'
            · rw [if_neg ei] at hi; exact hcl i o' ho' hi e' he' hb'
        · rw [← hset, hmix]; exact g1
        · rw [hmix]; exact hK.trans (g3.m m)
  have e0 : ∀ i, (Array.replicate ops.size false).getD i false = false := fun i => by
    by_cases hi : i < ops.size <;> simp [Array.getD, hi]
  have m0 : mixT (fun i => (Array.replicate ops.size false).getD i false) 0 us s.O = s.O := mixT_none us 0 s.O (fun j _ => e0 _)
  have r0 : mixR ops s.R R' (Array.replicate ops.size false) = s.R := by
    funext d
    unfold mixR
    rw [if_neg]
    rintro ⟨i, o, _, _, h3⟩
    rw [e0] at h3; cases h3
  refine main ops.size (Array.replicate ops.size false) κ φ w a (by simp) (by simp [List.countP_replicate]) (fun j o _ hj => by rw [e0] at hj; cases hj) ?_ (Fr.refl _ _) ?_
  · rw [m0, r0]; exact F0
  · rw [m0]; exact KpM.refl _ _ _

end Go.Am

/-
  The closed machine is sound.
-/
namespace Go.Am
set_option linter.unusedSectionVars false
variable {P : Program} [Gl] [Df]

/-- What a function makes of its arguments, whatever objects there are. -/
def GC (P : Program) (f : FuncId) (args : List RV) (O : Tab) (r : RV) (O' : Tab) : Prop :=
  ∀ (κ : Kap) (φ : Phi) (w : World) (vs : Array Value), (∀ i, OR κ φ O w.heap i (O i)) → Bnd κ w → vs.size = args.length →
    (∀ (i : Nat) (x : RV) (v : Value), args[i]? = some x → vs[i]? = some v → RVR κ φ O w.heap x v) →
    Calls P f vs w fun e w' => ∃ v κ' φ', e = .returned v ∧ RVR κ' φ' O' w'.heap r v ∧ (∀ i, OR κ' φ' O' w'.heap i (O' i)) ∧ Bnd κ' w' ∧ Fr κ w κ' w' ∧ Kp φ O φ' O'

def VSound (P : Program) (call : VCall) : Prop := ∀ g args O nx r O' nx', call g args O nx = some (r, O', nx') → GC P g args O.fn r O'.fn

theorem Mono.of_fr {κ κ' : Kap} {φ φ' : Phi} {O O' : Tab} {w w' : World} (R : Fr κ w κ' w') (K : Kp φ O φ' O') : Mono κ φ O w.heap κ' φ' O' w'.heap := ⟨R.imm, R.shp, K.phi, K.len⟩

theorem setAllV_fn : ∀ (u : List (Nat × PObj)) (O : OT), smallV u = true → (setAllV O u).fn = updO O.fn u
  | [], _, _ => rfl
  | (i, p) :: r, O, h => by
    simp only [smallV] at h
    cases hb : Nat.ble i 1048575 with
    | false => rw [hb] at h; simp at h
    | true =>
      rw [hb] at h; simp only [cond_true] at h
      have hi := Nat.le_of_ble_eq_true hb
      simp only [setAllV]
      rw [setAllV_fn r _ h, OT.fn_put (by omega)]; rfl

/-- The state of the closed machine. -/
noncomputable def vst (n : Nat) (R : RT) (O : OT) : SSt := { n := n, R := R.fn, O := O.fn, df := Df.df }

theorem FRel.putV {κ : Kap} {φ : Phi} {w : World} {n : Nat} {R : RT} {O : Tab} {a : Act} (F : FRel κ φ w { n := n, R := R.fn, O := O, df := Df.df } a) {dst : Option Nat} {rv : RV} {v : Value}
    (hd : ∀ d, dst = some d → d < n ∧ d < 512) (hr : RVR κ φ O w.heap rv v) : FRel κ φ w { n := n, R := (Am.putV R dst rv).fn, O := O, df := Df.df } (a.put dst v) := by
  cases dst with
  | none => exact F.putNone v
  | some d =>
    obtain ⟨h1, h2⟩ := hd d rfl
    have := F.put (d := d) h1 hr
    simp only [Am.putV, RT.fn_put h2]
    exact this

theorem putV_fn {R : RT} {dst : Option Nat} {v : RV} (hd : ∀ d, dst = some d → d < 512) : (putV R dst v).fn = setD R.fn dst v := by
  cases dst with
  | none => rfl
  | some d => simp only [putV, RT.fn_put (hd d rfl)]; rfl

theorem resV_spec {R R' : RT} {O O' : OT} {nx nx' : Nat} {dst : Option Nat} {r : Option (Res × Bool)} (h : resV R O nx dst r = some (R', O', nx')) :
    ∃ res un, r = some (res, un) ∧ (∀ c ∈ res.conds, c = true) ∧ R' = putV R dst res.val ∧ O'.fn = updO O.fn res.upd := by
  unfold resV at h
  cases r with
  | none => simp at h
  | some p =>
    obtain ⟨res, un⟩ := p
    obtain ⟨v, u, c⟩ := res
    simp only at h
    cases hc : allT c with
    | false => rw [hc] at h; simp at h
    | true =>
      rw [hc] at h; simp only [cond_true] at h
      cases u with
      | nil =>
        simp only [Option.some.injEq, Prod.mk.injEq] at h
        obtain ⟨rfl, rfl, rfl⟩ := h
        exact ⟨_, _, rfl, allT_spec hc, rfl, rfl⟩
      | cons p u =>
        simp only at h
        cases hs : smallV (p :: u) with
        | false => rw [hs] at h; simp at h
        | true =>
          rw [hs] at h; simp only [cond_true, Option.some.injEq, Prod.mk.injEq] at h
          obtain ⟨rfl, rfl, rfl⟩ := h
          exact ⟨_, _, rfl, allT_spec hc, rfl, setAllV_fn _ _ hs⟩

theorem vOp_wp {κ : Kap} {φ : Phi} {w : World} {a : Act} {cf : Cfg} (hcf : CfOk P cf) {has : Nat → Bool} {call : VCall} (hcall : VSound P call) {ops : Array Oper} {n nx nx' : Nat} {R R' : RT} {O O' : OT} {o : Oper} (F : FRel κ φ w (vst n R O) a)
    (h : vOp cf has call ops R O nx o = some (R', O', nx')) {i : Nat} (hi : ops[i]? = some o)
    (hn : ∀ (j : Nat) (gg : Oper) (t : Nat), ops[j]? = some gg → gg.dst = some t → t < n) (hn2 : n ≤ 512) {Q : Exit → Act → World → Prop} {K : Act → World → Prop}
    (hk : ∀ a' w' κ' φ', FRel κ' φ' w' (vst n R' O') a' → Fr κ w κ' w' → Kp φ O.fn φ' O'.fn → K a' w') : wpOp P ops Q i K a w := by
  have hdst : ∀ d, o.dst = some d → d < n ∧ d < 512 := fun d hd => ⟨hn i o d hi hd, Nat.lt_of_lt_of_le (hn i o d hi hd) hn2⟩
  unfold vOp at h
  unfold wpOp
  rw [hi]; simp only
  have gen : ∀ (r : Option (Res × Bool)), resV R O nx o.dst r = some (R', O', nx') →
      (∀ res un, r = some (res, un) → (∀ c ∈ res.conds, c = true) → ∀ (next : Act → World → Prop),
        (∀ v w' κ' φ', FRel κ' φ' w' { vst n R O with O := updO O.fn res.upd } a → RVR κ' φ' (updO O.fn res.upd) w'.heap res.val v → Fr κ w κ' w' → Kp φ O.fn φ' (updO O.fn res.upd) → next (a.put o.dst v) w') → o.wp P a w next Q) → o.wp P a w K Q := by
    intro r hr hw
    obtain ⟨res, un, e1, e2, e3, e4⟩ := resV_spec hr
    refine hw res un e1 e2 K (fun v w' κ' φ' g1 g2 g3 g4 => ?_)
    refine hk _ w' κ' φ' ?_ g3 (by rw [e4]; exact g4)
    subst e3
    unfold vst
    rw [e4]
    exact FRel.putV g1 hdst g2
  split at h
  · simp at h
  · rename_i hg
    rw [guard_wanted (s := vst n R O) F hg (fun j want gg t _ hj ht => hn j gg t hj ht)]
    simp only [Bool.false_eq_true, if_false]
    simp only [Option.some.injEq, Prod.mk.injEq] at h
    obtain ⟨rfl, rfl, rfl⟩ := h
    exact hk _ _ κ φ (FRel.putV F hdst .und) (Fr.refl _ _) (Kp.refl _ _)
  · rename_i hg
    rw [guard_wanted (s := vst n R O) F hg (fun j want gg t _ hj ht => hn j gg t hj ht)]
    simp only [if_true]
    left
    split at h
    · rename_i x hop
      simp only [Option.some.injEq, Prod.mk.injEq] at h
      obtain ⟨rfl, rfl, rfl⟩ := h
      exact wp_value (v := a.eval x) (by simp [execOp, hop]) (hk _ w κ φ (FRel.putV F hdst (rvOf_ok F x)) (Fr.refl _ _) (Kp.refl _ _))
    · rename_i x hop
      simp only [Option.some.injEq, Prod.mk.injEq] at h
      obtain ⟨rfl, rfl, rfl⟩ := h
      exact wp_value (v := a.eval x) (by simp [execOp, hop]) (hk _ w κ φ (FRel.putV F hdst (rvOf_ok F x)) (Fr.refl _ _) (Kp.refl _ _))
    · rename_i c hop
      split at h
      · rename_i f hcal
        split at h
        · rename_i g first caps hrf
          cases hok : cf.callOk g with
          | false => rw [hok] at h; simp at h
          | true =>
            rw [hok] at h; simp only [cond_true] at h
            have rf := rvOf_ok F f
            have hrf' : rvOf (vst n R O).R f = .clo (.func g) first caps := hrf
            rw [hrf'] at rf
            generalize hev : a.eval f = fv at rf
            cases rf with
            | clo h1 h2 h3 h4 =>
              rename_i fa ca
              have hargs := map_rel F c.args
              have hexec : (execOp a.eval o).run P w = .ok (.enter g (fa ++ c.args.map a.eval ++ ca)) w := by
                simp only [execOp, hop, resolve, hcal, hev, Deferred.ofValue, Sem.run_bind, Sem.run_pure, Result.andThen_ok, invoke]
                exact run_callFunc (hcf.call g hok) _ w
              have hsz : (fa ++ c.args.map a.eval ++ ca).size = (first ++ c.args.toList.map (rvOf R.fn) ++ caps).length := by simp; omega
              have hrel : ∀ (i : Nat) (x : RV) (v : Value), (first ++ c.args.toList.map (rvOf R.fn) ++ caps)[i]? = some x → (fa ++ c.args.map a.eval ++ ca)[i]? = some v → RVR κ φ O.fn w.heap x v := by
                intro i x v hx hv
                by_cases k1 : i < first.length
                · rw [List.append_assoc, List.getElem?_append_left k1] at hx
                  rw [Array.append_assoc, Array.getElem?_append_left (by omega)] at hv
                  exact h3 i x v hx hv
                · rw [List.append_assoc, List.getElem?_append_right (by omega)] at hx
                  rw [Array.append_assoc, Array.getElem?_append_right (by omega)] at hv
                  by_cases k2 : i - first.length < c.args.size
                  · rw [List.getElem?_append_left (by simpa using k2)] at hx
                    rw [Array.getElem?_append_left (by simp; omega)] at hv
                    exact hargs _ x v hx (by rw [← h1]; exact hv)
                  · rw [List.getElem?_append_right (by simp; omega)] at hx
                    rw [Array.getElem?_append_right (by simp; omega)] at hv
                    refine h4 _ x v hx ?_
                    rw [← hv]; congr 1; simp; omega
              split at h
              · rename_i res hres
                refine gen _ h (fun res' un e1 e2 next hnext => ?_)
                injection e1 with e1; injection e1 with e1 _; subst e1
                have hres' : exCallF cf.K (cf.byref g) O.fn nx g (first ++ c.args.toList.map (rvOf R.fn) ++ caps) = some res := by
                  cases hh : has g with
                  | true => rw [hh] at hres; exact hres
                  | false => rw [hh] at hres; cases hres
                have hcalls := callF_ok (s := vst n R O) F hcf.K hres' e2 hsz hrel
                unfold Oper.wp
                rw [hexec]
                refine hcalls.mono ?_
                rintro e w' ⟨v, κ', φ', rfl, g1, g2, g3, g4⟩
                exact hnext v w' κ' φ' g1 g2 g3 g4
              · split at h
                · rename_i v O1 nx1 hcl
                  simp only [Option.some.injEq, Prod.mk.injEq] at h
                  obtain ⟨rfl, rfl, rfl⟩ := h
                  have hG := hcall _ _ _ _ _ _ _ hcl κ φ w _ F.objs F.bnd hsz hrel
                  unfold Oper.wp
                  rw [hexec]
                  refine hG.mono ?_
                  rintro e w' ⟨v', κ', φ', rfl, g1, g2, g3, g4, g5⟩
                  have M := Mono.of_fr g4 g5
                  have F' : FRel κ' φ' w' { n := n, R := R.fn, O := O1.fn, df := Df.df } a := ⟨fun t => (F.regs t).mono M, g2, g3, F.n, F.df.mono M⟩
                  exact hk _ w' κ' φ' (FRel.putV F' hdst g1) g4 g5
                · simp at h
        · simp at h
      · exact gen _ h (fun res un e1 e2 next hnext => op_wp hcf F e1 e2 hnext)
    · exact gen _ h (fun res un e1 e2 next hnext => op_wp hcf F e1 e2 hnext)

theorem vOps_wp {cf : Cfg} (hcf : CfOk P cf) {has : Nat → Bool} {call : VCall} (hcall : VSound P call) {ops : Array Oper} {n : Nat} (hn2 : n ≤ 512) {Q : Exit → Act → World → Prop} : ∀ (l : List Oper) (k : Nat) {κ : Kap} {φ : Phi} {w : World} {a : Act} {R R' : RT} {O O' : OT} {nx nx' : Nat},
    FRel κ φ w (vst n R O) a → vOps cf has call ops l R O nx = some (R', O', nx') → guardsOk n ops = true → (∀ i o, l[i]? = some o → ops[k + i]? = some o) →
    (∀ a' w' κ' φ', FRel κ' φ' w' (vst n R' O') a' → Fr κ w κ' w' → Kp φ O.fn φ' O'.fn → Q .normal a' w') → wpOps P ops Q (List.range' k l.length) a w
  | [], k, κ, φ, w, a, R, R', O, O', nx, nx', F, h, hg, hl, hk => by
    simp only [vOps, Option.some.injEq, Prod.mk.injEq] at h
    obtain ⟨rfl, rfl, rfl⟩ := h
    exact hk a w κ φ F (Fr.refl _ _) (Kp.refl _ _)
  | o :: r, k, κ, φ, w, a, R, R', O, O', nx, nx', F, h, hg, hl, hk => by
    simp only [vOps] at h
    split at h
    · rename_i R1 O1 nx1 h1
      have hk0 : ops[k]? = some o := by simpa using hl 0 o rfl
      simp only [List.length_cons, List.range'_succ]
      rw [wpOps_cons]
      refine vOp_wp hcf hcall F h1 hk0 (guardsOk_spec hg) hn2 (fun a' w' κ' φ' g1 g2 g3 => ?_)
      exact vOps_wp hcf hcall hn2 r (k + 1) g1 h hg (fun i o' hi => by have := hl (i + 1) o' (by simpa using hi); rw [← this]; congr 1; omega) (fun a2 w2 κ2 φ2 k1 k2 k3 => hk a2 w2 κ2 φ2 k1 (g2.trans k2) (g3.trans k3))
    · simp at h

theorem qVal_es {cf : Cfg} {ops : Array Oper} {R : Nat → RV} {O : Tab} {o : Oper} {v : RV} {c : List Bool} {e : List (RV × RV)} (h : qVal cf ops [] R O o = some (v, c, e)) : e = [] := by
  unfold qVal at h
  split at h
  · cases h
  · injection h with h; injection h with h1 h; injection h with h2 h3; exact h3.symm
  · split at h
    · cases h
    · rename_i res un hex
      cases hu : res.upd.isEmpty with
      | false => rw [hu] at h; simp at h
      | true =>
        rw [hu] at h; simp only [cond_true, findOv] at h
        split at h <;> (injection h with h; injection h with h1 h; injection h with h2 h3; exact h3.symm)

theorem vQ_run {cf : Cfg} {ops : Array Oper} {O : Tab} : ∀ (l : List Oper) (R R' : RT) (cs : List Bool), (∀ o ∈ l, ∀ d, o.dst = some d → d < 512) → vQ cf ops O l R = some R' → (∀ c ∈ cs, c = true) →
    ∃ cs', runQF cf ops [] O l R.fn cs [] = some (R'.fn, cs', []) ∧ ∀ c ∈ cs', c = true
  | [], R, R', cs, _, h, hc => by simp only [vQ, Option.some.injEq] at h; subst h; exact ⟨cs, rfl, hc⟩
  | o :: r, R, R', cs, hd, h, hc => by
    simp only [vQ] at h
    cases h1 : qVal cf ops [] R.fn O o with
    | none => rw [h1] at h; simp at h
    | some p =>
      obtain ⟨v, c, e⟩ := p
      rw [h1] at h; simp only at h
      have he := qVal_es h1
      subst he
      cases hcc : allT c with
      | false => rw [hcc] at h; simp at h
      | true =>
        rw [hcc] at h; simp only [cond_true] at h
        simp only [runQF, h1]
        rw [← putV_fn (hd o (by simp))]
        exact vQ_run r _ R' (cs ++ c) (fun o ho => hd o (by simp [ho])) h (fun x hx => by
          rcases List.mem_append.1 hx with hx | hx
          · exact hc x hx
          · exact allT_spec hcc x hx)

theorem eVal_es {cf : Cfg} {ops : Array Oper} {R : Nat → RV} {O : Tab} {sl : Nat} {o : Oper} {v : RV} {u : List (Nat × PObj)} {c : List Bool} {e : List (RV × RV)} (h : eVal cf ops [] R O sl o = some (v, u, c, e)) : e = [] := by
  unfold eVal at h
  split at h
  · cases h
  · injection h with h; injection h with h1 h; injection h with h2 h; injection h with h3 h4; exact h4.symm
  · split at h
    · cases h
    · simp only [findOv] at h
      split at h <;> (injection h with h; injection h with h1 h; injection h with h2 h; injection h with h3 h4; exact h4.symm)

theorem vE_run {cf : Cfg} {ops : Array Oper} {n z : Nat} : ∀ (l : List Oper) (R R' : RT) (O O' : OT) (rs rs' : List (List Nat × List Nat)) (cs : List Bool), (∀ o ∈ l, ∀ d, o.dst = some d → d < 512) →
    vE cf ops n z l R O rs = some (R', O', rs') → (∀ c ∈ cs, c = true) → ∃ cs', runEF cf ops [] n z l R.fn O.fn cs [] rs = some (R'.fn, O'.fn, cs', [], rs') ∧ ∀ c ∈ cs', c = true
  | [], R, R', O, O', rs, rs', cs, _, h, hc => by
    simp only [vE, Option.some.injEq, Prod.mk.injEq] at h
    obtain ⟨rfl, rfl, rfl⟩ := h; exact ⟨cs, rfl, hc⟩
  | o :: r, R, R', O, O', rs, rs', cs, hd, h, hc => by
    simp only [vE] at h
    cases h1 : eVal cf ops [] R.fn (restr (foot R.fn O.fn o) O.fn) (slotE n z o) o with
    | none => rw [h1] at h; simp at h
    | some p =>
      obtain ⟨v, u, c, e⟩ := p
      rw [h1] at h; simp only at h
      have he := eVal_es h1
      subst he
      cases hcc : (allT c && smallV u && freshB O.fn (foot R.fn O.fn o) (slotE n z o :: (slotE n z o + 1) :: keysU u)) with
      | false => rw [hcc] at h; simp at h
      | true =>
        rw [hcc] at h; simp only [cond_true] at h
        simp only [Bool.and_eq_true] at hcc
        obtain ⟨⟨c1, c2⟩, c3⟩ := hcc
        simp only [runEF, h1, c3, cond_true]
        rw [← putV_fn (hd o (by simp)), ← setAllV_fn u O c2]
        exact vE_run r _ R' _ O' _ rs' (cs ++ c) (fun o ho => hd o (by simp [ho])) h (fun x hx => by
          rcases List.mem_append.1 hx with hx | hx
          · exact hc x hx
          · exact allT_spec c1 x hx)

theorem objsV_get : ∀ (l : List PObj) (k : Nat) (O : OT), k + l.length ≤ 1048576 → (objsV k l O).fn = fun i => if i < k then O.fn i else if i < k + l.length then l[i - k]? else O.fn i
  | [], k, O, _ => by funext i; simp only [objsV, List.length_nil, Nat.add_zero]; split <;> rfl
  | p :: r, k, O, h => by
    simp only [List.length_cons] at h
    simp only [objsV]
    rw [objsV_get r (k + 1) _ (by omega), OT.fn_put (by omega)]
    funext i
    simp only [setT, List.length_cons]
    by_cases h1 : i < k
    · rw [if_pos (by omega), if_pos h1, if_neg (by omega)]
    · rw [if_neg h1]
      by_cases h2 : i = k
      · subst h2; rw [if_pos (by omega), if_pos rfl, if_pos (by omega), Nat.sub_self]; rfl
      · rw [if_neg (by omega), if_neg h2]
        by_cases h3 : i < k + (r.length + 1)
        · rw [if_pos (by omega), if_pos h3, show i - k = (i - (k + 1)) + 1 by omega]; rfl
        · rw [if_neg (by omega), if_neg h3]

theorem objsV_fn (l : List PObj) (h : l.length ≤ 4000) : (objsV 0 l OT.nil).fn = tabOf l := by
  rw [objsV_get l 0 _ (by omega), OT.fn_nil]
  funext i
  simp only [Nat.not_lt_zero, if_false, Nat.zero_add, Nat.sub_zero, tabOf]
  split
  · rfl
  · rw [List.getElem?_eq_none (by omega)]
end Go.Am
