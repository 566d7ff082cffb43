/-
  Texts that the claim leans on, one behind the other: AmEqb, AmIt, AmOp, AmRun, AmWk, AmDraw, AmEff1, AmEff2.
-/
import Derived.Test.YtadndmmhpkmjeaaGreatDoorAmB
import Derived.Laws.RangeString
import Derived.Scope

/-
  The abstract machine: are two data, values, objects the same? As functions that the kernel runs.
-/
namespace Go.Am
set_option linter.unusedSectionVars false
variable [Gl]

def eqL {α : Type} (f : α → α → Bool) : List α → List α → Bool
  | [], [] => true
  | x :: l, y :: r => match f x y with
    | true => eqL f l r
    | false => false
  | _, _ => false

theorem eqL_spec {α : Type} {f : α → α → Bool} (hf : ∀ x y, f x y = true → x = y) : ∀ (l r : List α), eqL f l r = true → l = r
  | [], [], _ => rfl
  | [], _ :: _, h => by simp [eqL] at h
  | _ :: _, [], h => by simp [eqL] at h
  | x :: l, y :: r, h => by
    simp only [eqL] at h
    split at h
    · rename_i e; rw [hf x y e, eqL_spec hf l r h]
    · cases h

def eqBool : Bool → Bool → Bool
  | true, true => true
  | false, false => true
  | _, _ => false
theorem eqBool_spec {a b : Bool} (h : eqBool a b = true) : a = b := by cases a <;> cases b <;> first | rfl | (simp [eqBool] at h)

def eqInt : Int → Int → Bool
  | .ofNat a, .ofNat b => Nat.beq a b
  | .negSucc a, .negSucc b => Nat.beq a b
  | _, _ => false
theorem eqInt_spec {a b : Int} (h : eqInt a b = true) : a = b := by
  cases a <;> cases b <;> simp only [eqInt] at h
  · rw [nbE h]
  · cases h
  · cases h
  · rw [nbE h]

def eqByte (a b : UInt8) : Bool := Nat.beq a.toNat b.toNat
theorem eqByte_spec (a b : UInt8) (h : eqByte a b = true) : a = b := UInt8.toNat_inj.1 (nbE h)

def eqDV : Nat → DV → DV → Bool
  | 0, _, _ => false
  | n + 1, x, y => match x, y with
    | .bool a, .bool b => eqBool a b
    | .int k a, .int k' b => bif kindEq k k' then eqInt a b else false
    | .str a, .str b => eqL eqByte a b
    | .agg a, .agg b => eqL (eqDV n) a b
    | .tup a, .tup b => eqL (eqDV n) a b
    | .lst s a f, .lst s' b f' => bif Nat.beq s s' && eqBool f f' then eqL (eqDV n) a b else false
    | .nilp, .nilp => true
    | .nilm, .nilm => true
    | .nilf, .nilf => true
    | .nili, .nili => true
    | .iface t a, .iface t' b => bif Nat.beq t t' then eqDV n a b else false
    | _, _ => false

theorem eqDV_spec : ∀ (n : Nat) (x y : DV), eqDV n x y = true → x = y := by
  intro n
  induction n with
  | zero => intro x y h; simp [eqDV] at h
  | succ n ih =>
    intro x y h
    have hl := eqL_spec ih
    cases x <;> cases y <;> simp only [eqDV] at h <;> first | rfl | (cases h; done) | skip
    · rw [eqBool_spec h]
    · rename_i k a k' b
      cases hk : kindEq k k' with
      | false => rw [hk] at h; cases h
      | true => rw [hk] at h; rw [kindEq_eq hk, eqInt_spec h]
    · rw [eqL_spec eqByte_spec _ _ h]
    · rw [hl _ _ h]
    · rw [hl _ _ h]
    · rename_i s a f s' b f'
      cases hk : (Nat.beq s s' && eqBool f f') with
      | false => rw [hk] at h; cases h
      | true =>
        rw [hk] at h; simp only [Bool.and_eq_true] at hk
        rw [nbE hk.1, eqBool_spec hk.2, hl _ _ h]
    · rename_i t a t' b
      cases hk : Nat.beq t t' with
      | false => rw [hk] at h; cases h
      | true => rw [hk] at h; rw [nbE hk, ih _ _ h]

def eqFn : Fn → Fn → Bool
  | .func a, .func b => Nat.beq a b
  | _, _ => false
theorem eqFn_spec {a b : Fn} (h : eqFn a b = true) : a = b := by
  cases a <;> cases b <;> simp only [eqFn] at h <;> first | (rw [nbE h]) | (cases h)

def eqON : Option Nat → Option Nat → Bool
  | none, none => true
  | some a, some b => Nat.beq a b
  | _, _ => false
theorem eqON_spec {a b : Option Nat} (h : eqON a b = true) : a = b := by
  cases a <;> cases b <;> simp only [eqON] at h <;> first | rfl | (cases h; done) | (rw [nbE h])

def eqRV : Nat → RV → RV → Bool
  | 0, _, _ => false
  | n + 1, x, y => match x, y with
    | .bot, .bot => true
    | .und, .und => true
    | .d a, .d b => eqDV 12 a b
    | .ptr i o, .ptr j p => Nat.beq i j && Nat.beq o p
    | .eptr i s k o, .eptr j s' k' p => Nat.beq i j && Nat.beq s s' && Nat.beq k k' && Nat.beq o p
    | .iptr a o, .iptr b p => Nat.beq o p && eqDV 12 a b
    | .own i s, .own j s' => Nat.beq i j && Nat.beq s s'
    | .sub i s o l, .sub j s' p l' => Nat.beq i j && Nat.beq s s' && Nat.beq o p && Nat.beq l l'
    | .sl i s o l c, .sl j s' p l' c' => Nat.beq i j && Nat.beq s s' && Nat.beq o p && Nat.beq l l' && eqON c c'
    | .map i, .map j => Nat.beq i j
    | .clo f a b, .clo f' a' b' => eqFn f f' && eqL (eqRV n) a a' && eqL (eqRV n) b b'
    | .agg a, .agg b => eqL (eqRV n) a b
    | .tup a, .tup b => eqL (eqRV n) a b
    | _, _ => false

theorem eqRV_spec : ∀ (n : Nat) (x y : RV), eqRV n x y = true → x = y := by
  intro n
  induction n with
  | zero => intro x y h; simp [eqRV] at h
  | succ n ih =>
    intro x y h
    have hl := eqL_spec ih
    cases x <;> cases y <;> simp only [eqRV, Bool.and_eq_true] at h <;> first | rfl | (cases h; done) | skip
    · rw [eqDV_spec _ _ _ h]
    · rw [nbE h.1, nbE h.2]
    · rw [nbE h.1.1.1, nbE h.1.1.2, nbE h.1.2, nbE h.2]
    · rw [nbE h.1, eqDV_spec _ _ _ h.2]
    · rw [nbE h.1, nbE h.2]
    · rw [nbE h.1.1.1, nbE h.1.1.2, nbE h.1.2, nbE h.2]
    · rw [nbE h.1.1.1.1, nbE h.1.1.1.2, nbE h.1.1.2, nbE h.1.2, eqON_spec h.2]
    · rw [nbE h]
    · rw [eqFn_spec h.1.1, hl _ _ h.1.2, hl _ _ h.2]
    · rw [hl _ _ h]
    · rw [hl _ _ h]

def eqEnt (a b : DV × DV) : Bool := eqDV 12 a.1 b.1 && eqDV 12 a.2 b.2
theorem eqEnt_spec (a b : DV × DV) (h : eqEnt a b = true) : a = b := by
  simp only [eqEnt, Bool.and_eq_true] at h
  exact Prod.ext (eqDV_spec _ _ _ h.1) (eqDV_spec _ _ _ h.2)

def eqPO : PObj → PObj → Bool
  | .box t a, .box t' b => Nat.beq t t' && eqL (eqRV 8) a b
  | .rar t a, .rar t' b => Nat.beq t t' && eqL (eqRV 8) a b
  | .arr t s a, .arr t' s' b => Nat.beq t t' && Nat.beq s s' && eqL (eqDV 12) a b
  | .frz s a, .frz s' b => Nat.beq s s' && eqL (eqDV 12) a b
  | .gone, .gone => true
  | .bld a, .bld b => eqL eqByte a b
  | .map a, .map b => eqL eqEnt a b
  | _, _ => false
theorem eqPO_spec (a b : PObj) (h : eqPO a b = true) : a = b := by
  cases a <;> cases b <;> simp only [eqPO, Bool.and_eq_true] at h <;> first | rfl | (cases h; done) | skip
  · rw [nbE h.1, eqL_spec (eqRV_spec 8) _ _ h.2]
  · rw [nbE h.1.1, nbE h.1.2, eqL_spec (eqDV_spec 12) _ _ h.2]
  · rw [nbE h.1, eqL_spec (eqDV_spec 12) _ _ h.2]
  · rw [eqL_spec eqByte_spec _ _ h]
  · rw [eqL_spec eqEnt_spec _ _ h]
  · rw [nbE h.1, eqL_spec (eqRV_spec 8) _ _ h.2]

def sameO (o : Option PObj) (p : PObj) : Bool := match o with
  | some q => eqPO q p
  | none => false

/-- What a list of changes really changes. -/
def dropSame (O : Tab) (u : List (Nat × PObj)) : List (Nat × PObj) := u.filter fun p => !(sameO (O p.1) p.2)

theorem updO_find : ∀ (u : List (Nat × PObj)) (O : Tab) (i : Nat), nodupB (u.map (·.1)) = true → (∃ p, (i, p) ∈ u ∧ updO O u i = some p) ∨ ((∀ p, (i, p) ∉ u) ∧ updO O u i = O i)
  | [], O, i, _ => .inr ⟨by simp, rfl⟩
  | (j, q) :: u, O, i, h => by
    simp only [List.map_cons, nodupB, Bool.and_eq_true, Bool.not_eq_true'] at h
    have hstep : updO O ((j, q) :: u) i = updO (setT O j (some q)) u i := rfl
    rcases updO_find u (setT O j (some q)) i h.2 with ⟨p, h1, h2⟩ | ⟨h1, h2⟩
    · exact .inl ⟨p, by simp [h1], by rw [hstep, h2]⟩
    · by_cases e : i = j
      · subst e; exact .inl ⟨q, by simp, by rw [hstep, h2, setT_same]⟩
      · refine .inr ⟨fun p hp => ?_, by rw [hstep, h2, setT_ne _ _ e]⟩
        rcases List.mem_cons.1 hp with hp | hp
        · injection hp with e1 e2; exact e e1
        · exact h1 p hp

theorem nodupB_filter {u : List (Nat × PObj)} {f : Nat × PObj → Bool} : nodupB (u.map (·.1)) = true → nodupB ((u.filter f).map (·.1)) = true := by
  induction u with
  | nil => intro h; exact h
  | cons a u ih =>
    intro h
    simp only [List.map_cons, nodupB, Bool.and_eq_true, Bool.not_eq_true'] at h
    rw [List.filter_cons]
    split
    · simp only [List.map_cons, nodupB, Bool.and_eq_true, Bool.not_eq_true']
      refine ⟨?_, ih h.2⟩
      rw [List.any_eq_false] at h ⊢
      intro x hx
      refine h.1 x ?_
      simp only [List.mem_map, List.mem_filter] at hx ⊢
      obtain ⟨y, ⟨hy, _⟩, rfl⟩ := hx
      exact ⟨y, hy, rfl⟩
    · exact ih h.2

theorem updO_dropSame {O : Tab} {u : List (Nat × PObj)} (h : nodupB (u.map (·.1)) = true) : updO O (dropSame O u) = updO O u := by
  funext i
  have huniq : ∀ p q, (i, p) ∈ u → (i, q) ∈ u → p = q := by
    intro p q hp hq
    rcases updO_find u O i h with ⟨r, h1, h2⟩ | ⟨h1, _⟩
    · have key : ∀ (u : List (Nat × PObj)), nodupB (u.map (·.1)) = true → ∀ p q, (i, p) ∈ u → (i, q) ∈ u → p = q := by
        intro u
        induction u with
        | nil => intro _ p q hp; simp at hp
        | cons a u ih =>
          intro hn p q hp hq
          simp only [List.map_cons, nodupB, Bool.and_eq_true, Bool.not_eq_true'] at hn
          have hne : ∀ r, a.1 = i → (i, r) ∉ u := fun r e hr => by
            have := List.any_eq_false.1 hn.1 i (List.mem_map.2 ⟨(i, r), hr, rfl⟩)
            rw [e, nbT rfl] at this; simp at this
          rcases List.mem_cons.1 hp with e1 | hp2
          · rcases List.mem_cons.1 hq with e2 | hq2
            · rw [← e1] at e2; injection e2 with _ e; exact e.symm
            · exact absurd hq2 (hne q (by rw [← e1]))
          · rcases List.mem_cons.1 hq with e2 | hq2
            · exact absurd hp2 (hne p (by rw [← e2]))
            · exact ih hn.2 p q hp2 hq2
      exact key u h p q hp hq
    · exact absurd hp (h1 p)
  rcases updO_find u O i h with ⟨p, h1, h2⟩ | ⟨h1, h2⟩
  · rw [h2]
    rcases updO_find (dropSame O u) O i (nodupB_filter h) with ⟨q, g1, g2⟩ | ⟨g1, g2⟩
    · rw [g2, huniq p q h1 ((List.mem_filter.1 g1).1)]
    · rw [g2]
      have hs : sameO (O i) p = true := by
        cases e : sameO (O i) p with
        | true => rfl
        | false => exact absurd (List.mem_filter.2 ⟨h1, by simp [e]⟩) (g1 p)
      unfold sameO at hs
      split at hs
      · rename_i q hq; rw [hq, eqPO_spec _ _ hs]
      · cases hs
  · rw [h2]
    rcases updO_find (dropSame O u) O i (nodupB_filter h) with ⟨q, g1, g2⟩ | ⟨g1, g2⟩
    · exact absurd ((List.mem_filter.1 g1).1) (h1 q)
    · exact g2
end Go.Am

/-
  The abstract machine: iterators over strings (of ASCII) and over maps that hold nothing.
-/
namespace Go.Am
set_option linter.unusedSectionVars false
variable {P : Program} [Gl]

def exRange (E : Env) (O : Tab) (sl t : Nat) (x : RV) : Option Res :=
  match O sl, E.und t, x with
  | none, some .string, .d (.str s) => some { val := .ptr sl 0, upd := [(sl, .sit s 0)] }
  | none, some (.map _ _), .map i => match O i with
    | some (.map []) => some { val := .ptr sl 0, upd := [(sl, .mit i)] }
    | _ => none
  | _, _, _ => none

def exNext (O : Tab) (x : RV) (str : Bool) : Option Res :=
  match x with
  | .ptr j 0 => match O j, str with
    | some (.sit s pos), true => match s[pos]? with
      | none => some { val := .d (.tup [.bool false]) }
      | some b => bif Nat.ble b.toNat 127 then some { val := .d (.tup [.bool true, .int .i64 pos, .int .i32 b.toNat]), upd := [(j, .sit s (pos + 1))] } else none
    | some (.mit i), false => match O i with
      | some (.map []) => some { val := .d (.tup [.bool false]) }
      | _ => none
    | _, _ => none
  | _ => none

theorem tup1 {κ : Kap} {h : Heap} (b : Bool) : DR κ h (.tup [.bool b]) (.tuple #[.bool b]) := by
  refine .tup rfl (fun i x v hx hv => ?_)
  cases i with
  | zero => simp at hx hv; subst hx; subst hv; exact .bool _
  | succ i => simp at hx

theorem range_ok {κ : Kap} {φ : Phi} {w : World} {s : SSt} {a : Act} (F : FRel κ φ w s a) {sl t : Nat} {x : RV} {v : Value} {res : Res}
    (hx : exRange (Env.of P) s.O sl t x = some res) (r : RVR κ φ s.O w.heap x v) : Out P κ φ w s a res.val res.upd (Instr.range t v) := by
  unfold exRange at hx
  split at hx
  · rename_i st hO hu
    injection hx with hx; subst hx
    cases r with
    | d hd =>
    cases hd
    obtain ⟨q1, q2, q3⟩ := F.alloc (i := sl) (p := .sit st 0) (o := .stringIter ⟨st.toArray⟩ 0) (w' := { w with heap := w.heap.push (.stringIter ⟨st.toArray⟩ 0) }) rfl hO
      (fun M => ⟨_, setP_same _ _ _, setK_same _ _ _, heap_push_eq _ _⟩)
    refine ⟨_, _, _, setP φ sl (.at w.heap.size), ?_, q1, .ptr (setP_same _ _ _), q3, q2.kp⟩
    simp only [Instr.range, Sem.run_bind, run_und hu, Result.andThen_ok, Sem.run_pure]
    rfl
  · rename_i k e i hO hu
    split at hx
    · rename_i hi
      injection hx with hx; subst hx
      have ho := F.objs i
      rw [hi] at ho
      obtain ⟨b, mes, clock, h1, h2, h3, h4, h5⟩ := ho
      cases r with
      | map hφ =>
      rename_i b'
      have : b' = b := by rw [h1] at hφ; injection hφ with e; exact e.symm
      subst this
      have hne : i ≠ sl := by rintro rfl; rw [hi] at hO; cases hO
      obtain ⟨q1, q2, q3⟩ := F.alloc (i := sl) (p := .mit i) (o := .mapIter (some b') clock #[] clock) (w' := { w with heap := w.heap.push (.mapIter (some b') clock #[] clock) }) rfl hO
        (fun M => ⟨_, b', clock, setP_same _ _ _, setK_same _ _ _, by rw [setP_ne _ _ hne]; exact h1, heap_push_eq _ _⟩)
      refine ⟨_, _, _, setP φ sl (.at w.heap.size), ?_, q1, .ptr (setP_same _ _ _), q3, q2.kp⟩
      have hg : (getObj b').run P w = .ok (.map mes clock) w := by simp [getObj, Sem.run, h3]
      simp only [Instr.range, Sem.run_bind, run_und hu, Result.andThen_ok, Sem.run_pure, hg]
      rfl
    · cases hx
  · cases hx

theorem next_ok {κ : Kap} {φ : Phi} {w : World} {s : SSt} {a : Act} (F : FRel κ φ w s a) {x : RV} {v : Value} {str : Bool} {ty : TypeId} {res : Res}
    (hx : exNext s.O x str = some res) (r : RVR κ φ s.O w.heap x v) : Out P κ φ w s a res.val res.upd (Instr.next v str ty) := by
  unfold exNext at hx
  split at hx
  · rename_i j
    cases r with
    | ptr hφ =>
    rename_i b
    split at hx
    · rename_i st pos hO
      have ho := F.objs j
      rw [hO] at ho
      obtain ⟨b', h1, h2, h3⟩ := ho
      have : b' = b := by rw [h1] at hφ; injection hφ
      subst this
      have hg : (getObj b').run P w = .ok (.stringIter ⟨st.toArray⟩ pos) w := by simp [getObj, Sem.run, h3]
      have hsz : (ByteArray.mk st.toArray).size = st.length := by simp [ByteArray.size]
      split at hx
      · rename_i hp
        injection hx with hx; subst hx
        have hlt : ¬ pos < st.length := by rw [List.getElem?_eq_none_iff] at hp; omega
        refine Out.pure F (v := .tuple #[.bool false]) ?_ (.d (tup1 _))
        simp only [Instr.next, Sem.run_bind, hg, Result.andThen_ok, hsz]
        rw [if_neg hlt]
        rfl
      · rename_i c hp
        cases hb : Nat.ble c.toNat 127 with
        | false => rw [hb] at hx; simp at hx
        | true =>
          rw [hb] at hx; simp only [cond_true, Option.some.injEq] at hx; subst hx
          have hc := Nat.le_of_ble_eq_true hb
          have hlt : pos < st.length := (List.getElem?_eq_some_iff.1 hp).1
          have hlt2 : pos < (ByteArray.mk st.toArray).size := by rw [hsz]; exact hlt
          have hce : (ByteArray.mk st.toArray)[pos]'hlt2 = c := by
            have : st[pos] = c := (List.getElem?_eq_some_iff.1 hp).2
            rw [← this]; rfl
          have hd := decode_ascii ⟨st.toArray⟩ pos hlt2 (by rw [hce]; omega)
          rw [hce] at hd
          have hq : ∀ (o : Obj), (setObj b' o).run P w = .ok () (World.row w b' o) := fun o => by simp [setObj, Sem.run, h3, World.row]
          obtain ⟨q1, q2, q3⟩ := F.write (i := j) (p := .sit st (pos + 1)) (o := .stringIter ⟨st.toArray⟩ (pos + 1)) h2 h1
            (fun c ty fz e => by rw [h3] at e; cases e) (fun n hn => by simp [PObj.len?] at hn) (fun M => ⟨b', h1, h2, row_heap h3⟩)
          refine ⟨.tuple #[.bool true, goInt pos, .int .i32 c.toNat], _, κ, φ, ?_, q1, .d (.tup rfl (fun i x v hx hv => ?_)), q3, q2.kp⟩
          · simp only [Instr.next, Sem.run_bind, hg, Result.andThen_ok, hsz]
            rw [if_pos hlt]
            simp only [hd, Sem.run_bind, hq, Result.andThen_ok, Sem.run_pure]
          · match i, hx, hv with
            | 0, hx, hv => simp at hx hv; subst hx; subst hv; exact .bool _
            | 1, hx, hv => simp at hx hv; subst hx; subst hv; exact goInt_DR _
            | 2, hx, hv => simp at hx hv; subst hx; subst hv; exact .int _ _
            | i + 3, hx, hv => simp at hx
    · rename_i m hO
      split at hx
      · rename_i hm
        injection hx with hx; subst hx
        have ho := F.objs j
        rw [hO] at ho
        obtain ⟨b', mb, c, h1, h2, h3, h4⟩ := ho
        have : b' = b := by rw [h1] at hφ; injection hφ
        subst this
        have hmo := F.objs m
        rw [hm] at hmo
        obtain ⟨b2, mes, clock, k1, k2, k3, k4, k5⟩ := hmo
        have : b2 = mb := by rw [h3] at k1; injection k1 with e; exact e.symm
        subst this
        have hme : mes = #[] := by
          apply Array.eq_empty_of_size_eq_zero
          simpa using k4.1
        subst hme
        have hg : (getObj b').run P w = .ok (.mapIter (some b2) c #[] c) w := by simp [getObj, Sem.run, h4]
        have hg2 : (getObj b2).run P w = .ok (.map #[] clock) w := by simp [getObj, Sem.run, k3]
        refine Out.pure F (v := .tuple #[.bool false]) ?_ (.d (tup1 _))
        simp only [Instr.next, Sem.run_bind, hg, hg2, Result.andThen_ok]
        have hf : ∀ p : MapEntry → Bool, (#[] : Array MapEntry).filter p = #[] := fun p => by apply Array.ext'; simp
        simp only [hf]
        simp [choose, Sem.run, Question.forced]
      · cases hx
    · cases hx
  · cases hx
end Go.Am

/-
  The abstract machine: one operation, whichever it is.
-/
namespace Go.Am
set_option linter.unusedSectionVars false
variable {P : Program} [Gl]

def isOwn : RV → Bool
  | .own _ _ => true
  | .sub _ _ _ _ => true
  | _ => false

/-- A value on its way into a call: arrays of one's own are frozen. -/
def prepCell (O : Tab) (v : RV) : Option (RV × List (Nat × PObj) × List Bool) :=
  bif isOwn v then match tkCell O v with
    | some (x, u, c) => some (.d x, u, c)
    | none => none
  else some (v, [], [])
def prepCells (O : Tab) : List RV → Option (List RV × List (Nat × PObj) × List Bool)
  | [] => some ([], [], [])
  | v :: r => match prepCell O v, prepCells O r with
    | some (x, u, c), some (l, u', c') => some (x :: l, u ++ u', c ++ c')
    | _, _ => none
def prepRV (O : Tab) : RV → Option (RV × List (Nat × PObj) × List Bool)
  | .agg cs => match prepCells O cs with
    | some (l, u, c) => some (mkAgg l, u, c)
    | none => none
  | v => prepCell O v
def prepAll (O : Tab) : List RV → Option (List RV × List (Nat × PObj) × List Bool)
  | [] => some ([], [], [])
  | v :: r => match prepRV O v, prepAll O r with
    | some (x, u, c), some (l, u', c') => some (x :: l, u ++ u', c ++ c')
    | _, _ => none

theorem prepCell_ok {κ : Kap} {φ : Phi} {w : World} {s : SSt} {a : Act} (F : FRel κ φ w s a) {O0 : Tab} (hf : Frzd O0 s.O) {x y : RV} {v : Value}
    {u : List (Nat × PObj)} {c : List Bool} (hx : prepCell O0 x = some (y, u, c)) (hc : ∀ b ∈ c, b = true) (r : RVR κ φ s.O w.heap x v) :
    ∃ κ', FRel κ' φ w { s with O := updO s.O u } a ∧ Mono κ φ s.O w.heap κ' φ (updO s.O u) w.heap ∧ Fr κ w κ' w ∧ Frzd O0 (updO s.O u) ∧ RVR κ' φ (updO s.O u) w.heap y v := by
  unfold prepCell at hx
  cases ho : isOwn x with
  | false =>
    rw [ho] at hx; simp only [cond_false, Option.some.injEq, Prod.mk.injEq] at hx
    obtain ⟨rfl, rfl, rfl⟩ := hx
    exact ⟨κ, F, Mono.refl _ _ _ _, Fr.refl _ _, hf, r⟩
  | true =>
    rw [ho] at hx; simp only [cond_true] at hx
    cases ht : tkCell O0 x with
    | none => rw [ht] at hx; simp at hx
    | some p =>
      obtain ⟨d, u', c'⟩ := p
      rw [ht] at hx; simp only [Option.some.injEq, Prod.mk.injEq] at hx
      obtain ⟨rfl, rfl, rfl⟩ := hx
      obtain ⟨κ', h1, h2, h3, h4, h5⟩ := tkCell_ok F hf ht hc r
      exact ⟨κ', h1, h2, h3, h4, .d h5⟩

theorem prepCells_ok {O0 : Tab} : ∀ {κ : Kap} {φ : Phi} {w : World} {s : SSt} {a : Act} (_ : FRel κ φ w s a) (_ : Frzd O0 s.O) {xs ys : List RV} {vs : List Value}
    {u : List (Nat × PObj)} {c : List Bool} (_ : prepCells O0 xs = some (ys, u, c)) (_ : ∀ b ∈ c, b = true) (_ : vs.length = xs.length)
    (_ : ∀ (i : Nat) (x : RV) (v : Value), xs[i]? = some x → vs[i]? = some v → RVR κ φ s.O w.heap x v),
    ∃ κ', FRel κ' φ w { s with O := updO s.O u } a ∧ Mono κ φ s.O w.heap κ' φ (updO s.O u) w.heap ∧ Fr κ w κ' w ∧ Frzd O0 (updO s.O u) ∧
      ys.length = xs.length ∧ ∀ (i : Nat) (y : RV) (v : Value), ys[i]? = some y → vs[i]? = some v → RVR κ' φ (updO s.O u) w.heap y v := by
  intro κ φ w s a F hf xs
  induction xs generalizing κ s with
  | nil =>
    intro ys vs u c hx _ _ _
    simp only [prepCells, Option.some.injEq, Prod.mk.injEq] at hx
    obtain ⟨rfl, rfl, rfl⟩ := hx
    exact ⟨κ, F, Mono.refl _ _ _ _, Fr.refl _ _, hf, rfl, by simp⟩
  | cons x xs ih =>
    intro ys vs u c hx hc hl hr
    simp only [prepCells] at hx
    cases h1 : prepCell O0 x with
    | none => rw [h1] at hx; simp at hx
    | some p1 =>
      obtain ⟨y, u1, c1⟩ := p1
      cases h2 : prepCells O0 xs with
      | none => rw [h1, h2] at hx; simp at hx
      | some p2 =>
        obtain ⟨l, u2, c2⟩ := p2
        rw [h1, h2] at hx
        simp only [Option.some.injEq, Prod.mk.injEq] at hx
        obtain ⟨rfl, rfl, rfl⟩ := hx
        cases vs with
        | nil => simp at hl
        | cons v vs =>
          obtain ⟨κ1, F1, M1, R1, f1, d1⟩ := prepCell_ok F hf h1 (fun b hb => hc b (by simp [hb])) (hr 0 x v rfl rfl)
          obtain ⟨κ2, F2, M2, R2, f2, l2, d2⟩ := ih F1 f1 h2 (fun b hb => hc b (by simp [hb])) (vs := vs) (by simpa using hl)
            (fun i x' v' hx' hv' => (hr (i + 1) x' v' (by simpa using hx') (by simpa using hv')).mono M1)
          refine ⟨κ2, ?_, ?_, R1.trans R2, ?_, by simp [l2], ?_⟩
          · rw [updO_append]; exact F2
          · rw [updO_append]; exact M1.trans M2
          · rw [updO_append]; exact f2
          · rw [updO_append]
            intro i y' v' hy' hv'
            cases i with
            | zero => simp at hy' hv'; subst hy'; subst hv'; exact d1.mono M2
            | succ i => exact d2 i y' v' (by simpa using hy') (by simpa using hv')

theorem prepRV_ok {κ : Kap} {φ : Phi} {w : World} {s : SSt} {a : Act} (F : FRel κ φ w s a) {O0 : Tab} (hf : Frzd O0 s.O) {x y : RV} {v : Value}
    {u : List (Nat × PObj)} {c : List Bool} (hx : prepRV O0 x = some (y, u, c)) (hc : ∀ b ∈ c, b = true) (r : RVR κ φ s.O w.heap x v) :
    ∃ κ', FRel κ' φ w { s with O := updO s.O u } a ∧ Mono κ φ s.O w.heap κ' φ (updO s.O u) w.heap ∧ Fr κ w κ' w ∧ Frzd O0 (updO s.O u) ∧ RVR κ' φ (updO s.O u) w.heap y v := by
  by_cases hag : ∃ cs, x = .agg cs
  · obtain ⟨cs, rfl⟩ := hag
    simp only [prepRV] at hx
    cases h1 : prepCells O0 cs with
    | none => rw [h1] at hx; simp at hx
    | some p =>
      obtain ⟨l, u1, c1⟩ := p
      rw [h1] at hx
      simp only [Option.some.injEq, Prod.mk.injEq] at hx
      obtain ⟨rfl, rfl, rfl⟩ := hx
      cases r with
      | agg hl hs hr =>
        rename_i vs
        obtain ⟨κ', h2, h3, h4, h5, h6, h8⟩ := prepCells_ok F hf h1 hc (vs := vs.toList) (by simpa using hl) (fun i x v hx hv => hr i x v hx (by simpa using hv))
        exact ⟨κ', h2, h3, h4, h5, mkAgg_ok (by omega) hs (fun i y v hy hv => h8 i y v hy (by simpa using hv))⟩
  · have : prepRV O0 x = prepCell O0 x := by cases x <;> first | rfl | exact absurd ⟨_, rfl⟩ hag
    rw [this] at hx
    exact prepCell_ok F hf hx hc r

theorem prepAll_ok {O0 : Tab} : ∀ {κ : Kap} {φ : Phi} {w : World} {s : SSt} {a : Act} (_ : FRel κ φ w s a) (_ : Frzd O0 s.O) {xs ys : List RV} {vs : List Value}
    {u : List (Nat × PObj)} {c : List Bool} (_ : prepAll O0 xs = some (ys, u, c)) (_ : ∀ b ∈ c, b = true) (_ : vs.length = xs.length)
    (_ : ∀ (i : Nat) (x : RV) (v : Value), xs[i]? = some x → vs[i]? = some v → RVR κ φ s.O w.heap x v),
    ∃ κ', FRel κ' φ w { s with O := updO s.O u } a ∧ Mono κ φ s.O w.heap κ' φ (updO s.O u) w.heap ∧ Fr κ w κ' w ∧ Frzd O0 (updO s.O u) ∧
      ys.length = xs.length ∧ ∀ (i : Nat) (y : RV) (v : Value), ys[i]? = some y → vs[i]? = some v → RVR κ' φ (updO s.O u) w.heap y v := by
  intro κ φ w s a F hf xs
  induction xs generalizing κ s with
  | nil =>
    intro ys vs u c hx _ _ _
    simp only [prepAll, Option.some.injEq, Prod.mk.injEq] at hx
    obtain ⟨rfl, rfl, rfl⟩ := hx
    exact ⟨κ, F, Mono.refl _ _ _ _, Fr.refl _ _, hf, rfl, by simp⟩
  | cons x xs ih =>
    intro ys vs u c hx hc hl hr
    simp only [prepAll] at hx
    cases h1 : prepRV O0 x with
    | none => rw [h1] at hx; simp at hx
    | some p1 =>
      obtain ⟨y, u1, c1⟩ := p1
      cases h2 : prepAll O0 xs with
      | none => rw [h1, h2] at hx; simp at hx
      | some p2 =>
        obtain ⟨l, u2, c2⟩ := p2
        rw [h1, h2] at hx
        simp only [Option.some.injEq, Prod.mk.injEq] at hx
        obtain ⟨rfl, rfl, rfl⟩ := hx
        cases vs with
        | nil => simp at hl
        | cons v vs =>
          obtain ⟨κ1, F1, M1, R1, f1, d1⟩ := prepRV_ok F hf h1 (fun b hb => hc b (by simp [hb])) (hr 0 x v rfl rfl)
          obtain ⟨κ2, F2, M2, R2, f2, l2, d2⟩ := ih F1 f1 h2 (fun b hb => hc b (by simp [hb])) (vs := vs) (by simpa using hl)
            (fun i x' v' hx' hv' => (hr (i + 1) x' v' (by simpa using hx') (by simpa using hv')).mono M1)
          refine ⟨κ2, ?_, ?_, R1.trans R2, ?_, by simp [l2], ?_⟩
          · rw [updO_append]; exact F2
          · rw [updO_append]; exact M1.trans M2
          · rw [updO_append]; exact f2
          · rw [updO_append]
            intro i y' v' hy' hv'
            cases i with
            | zero => simp at hy' hv'; subst hy'; subst hv'; exact d1.mono M2
            | succ i => exact d2 i y' v' (by simpa using hy') (by simpa using hv')

def RV.refs : Nat → RV → List Nat
  | 0, _ => []
  | n + 1, x =>
    match x with
    | .ptr i _ => [i]
    | .eptr i _ _ _ => [i]
    | .own i _ => [i]
    | .sub i _ _ _ => [i]
    | .sl i _ _ _ _ => [i]
    | .map i => [i]
    | .clo _ fs cs => fs.flatMap (RV.refs n) ++ cs.flatMap (RV.refs n)
    | .agg cs => cs.flatMap (RV.refs n)
    | .tup cs => cs.flatMap (RV.refs n)
    | _ => []

def objRefs : Option PObj → List Nat
  | some (.box _ cs) => cs.flatMap (RV.refs 6)
  | some (.rar _ cs) => cs.flatMap (RV.refs 6)
  | some (.mit m) => [m]
  | _ => []

/-- The objects that can be reached, in the order in which they are met. -/
def reach (O : Tab) : Nat → List Nat → List Nat → List Nat
  | 0, _, done => done
  | _, [], done => done
  | n + 1, i :: todo, done => bif done.any (fun j => Nat.beq j i) then reach O n todo done else reach O n (todo ++ objRefs (O i)) (done ++ [i])

def news (sl n : Nat) : List Nat := (List.range n).map (sl + ·)

abbrev Kon := Nat → List RV → List PObj → Option (RV × List PObj × List Bool)

/-- The contracts that a run leans on. -/
def KSound (P : Program) (K : Kon) : Prop := ∀ f args objs r objs' c, K f args objs = some (r, objs', c) → (∀ b ∈ c, b = true) → C P f args objs (fun r2 o2 => r2 = r ∧ o2 = objs')

def exCallF (K : Kon) (byref : Bool) (O : Tab) (sl f : Nat) (args : List RV) : Option Res :=
  match (bif byref then some (args, [], []) else prepAll O args) with
  | none => none
  | some (args1, u, c) =>
    let ps := reach (updO O u) 400 (args1.flatMap (RV.refs 6)) []
    match mapO (RV.ren (fun i => idx i ps 0) 6) args1, mapO (fun i => match updO O u i with | some p => p.ren (fun i => idx i ps 0) | none => none) ps with
    | some args2, some objs => match K f args2 objs with
      | some (r, objs', c2) =>
        let nw := news sl (objs'.length - ps.length)
        bif nodupB ps && nodupB (ps ++ nw) && Nat.ble ps.length objs'.length && nw.all (fun i => (updO O u i).isNone) then
          match mapO (PObj.ren (fun j => (ps ++ nw)[j]?)) objs', RV.ren (fun j => (ps ++ nw)[j]?) 6 r with
          | some objs'', some r'' => some { val := r'', upd := u ++ zipU (ps ++ nw) objs'', conds := c ++ c2 }
          | _, _ => none
        else none
      | none => none
    | _, _ => none

theorem callF_ok {κ : Kap} {φ : Phi} {w : World} {s : SSt} {a : Act} (F : FRel κ φ w s a) {K : Kon} (hK : KSound P K) {byref : Bool} {sl f : Nat} {args : List RV} {vs : Array Value} {res : Res}
    (hx : exCallF K byref s.O sl f args = some res) (hc : ∀ b ∈ res.conds, b = true) (hl : vs.size = args.length)
    (hr : ∀ (i : Nat) (x : RV) (v : Value), args[i]? = some x → vs[i]? = some v → RVR κ φ s.O w.heap x v) :
    Calls P f vs w fun e w' => ∃ v κ' φ', e = .returned v ∧ FRel κ' φ' w' { s with O := updO s.O res.upd } a ∧ RVR κ' φ' (updO s.O res.upd) w'.heap res.val v ∧ Fr κ w κ' w' ∧ Kp φ s.O φ' (updO s.O res.upd) := by
  unfold exCallF at hx
  cases hp : (bif byref then some (args, [], []) else prepAll s.O args) with
  | none => rw [hp] at hx; simp at hx
  | some p3 =>
    obtain ⟨args1, u, c⟩ := p3
    rw [hp] at hx; simp only at hx
    generalize hps : reach (updO s.O u) 400 (args1.flatMap (RV.refs 6)) [] = ps at hx
    cases h1 : mapO (RV.ren (fun i => idx i ps 0) 6) args1 with
    | none => rw [h1] at hx; simp at hx
    | some args2 =>
      cases h2 : mapO (fun i => match updO s.O u i with | some p => p.ren (fun i => idx i ps 0) | none => none) ps with
      | none => rw [h1, h2] at hx; simp at hx
      | some objs =>
        rw [h1, h2] at hx; simp only at hx
        cases h3 : K f args2 objs with
        | none => rw [h3] at hx; simp at hx
        | some q3 =>
          obtain ⟨r, objs', c2⟩ := q3
          rw [h3] at hx; simp only at hx
          cases hg : (nodupB ps && nodupB (ps ++ news sl (objs'.length - ps.length)) && Nat.ble ps.length objs'.length && (news sl (objs'.length - ps.length)).all (fun i => (updO s.O u i).isNone)) with
          | false => rw [hg] at hx; simp at hx
          | true =>
            rw [hg] at hx; simp only [cond_true] at hx
            simp only [Bool.and_eq_true] at hg
            obtain ⟨⟨⟨g0, g1⟩, g2⟩, g3⟩ := hg
            have g2 := Nat.le_of_ble_eq_true g2
            cases h4 : mapO (PObj.ren (fun j => (ps ++ news sl (objs'.length - ps.length))[j]?)) objs' with
            | none => rw [h4] at hx; simp at hx
            | some objs'' =>
              cases h5 : RV.ren (fun j => (ps ++ news sl (objs'.length - ps.length))[j]?) 6 r with
              | none => rw [h4, h5] at hx; simp at hx
              | some r'' =>
                rw [h4, h5] at hx; simp only [Option.some.injEq] at hx; subst hx
                simp only at hc
                have pre : ∃ κ1, FRel κ1 φ w { s with O := updO s.O u } a ∧ Mono κ φ s.O w.heap κ1 φ (updO s.O u) w.heap ∧ Fr κ w κ1 w ∧ args1.length = args.length ∧
                    ∀ (i : Nat) (x : RV) (v : Value), args1[i]? = some x → vs[i]? = some v → RVR κ1 φ (updO s.O u) w.heap x v := by
                  cases byref with
                  | true =>
                    simp only [cond_true, Option.some.injEq, Prod.mk.injEq] at hp
                    obtain ⟨rfl, rfl, rfl⟩ := hp
                    exact ⟨κ, F, Mono.refl _ _ _ _, Fr.refl _ _, rfl, hr⟩
                  | false =>
                    simp only [cond_false] at hp
                    obtain ⟨κ1, q1, q2, q3, _, q5, q6⟩ := prepAll_ok F (Frzd.refl _) hp (fun b hb => hc b (by simp [hb])) (vs := vs.toList) (by simpa using hl) (fun i x v hx hv => hr i x v hx (by simpa using hv))
                    exact ⟨κ1, q1, q2, q3, q5, fun i x v hx hv => q6 i x v hx (by simpa using hv)⟩
                obtain ⟨κ1, F1, M1, R1, l1, hr1⟩ := pre
                have hC := hK f args2 objs r objs' c2 h3 (fun b hb => hc b (by simp [hb]))
                refine (call_core F1 (ps := ps) g0 h1 h2 hC (by omega) hr1).mono ?_
                rintro e w' ⟨v, r', o', rfl, ⟨rfl, rfl⟩, hle, hfin⟩
                have hnl : (news sl (o'.length - ps.length)).length = o'.length - ps.length := by simp [news]
                obtain ⟨κ', φ', f1, f2, f3, f4⟩ := hfin (ps ++ news sl (o'.length - ps.length)) r'' objs'' (by rw [List.length_append, hnl]; omega) g1 (by simp)
                  (fun i hi => by
                    rw [List.drop_left] at hi
                    have := List.all_eq_true.1 g3 i hi
                    simpa using this) h4 h5
                exact ⟨v, κ', φ', rfl, by rw [updO_append]; exact f1, by rw [updO_append]; exact f2, R1.trans f3, by rw [updO_append]; exact M1.kp.trans f4⟩

/-- The same, of the changes only those that are any. -/
def exCallD (diff : Bool) (K : Kon) (byref : Bool) (O : Tab) (sl f : Nat) (args : List RV) : Option Res :=
  match diff with
  | false => exCallF K byref O sl f args
  | true => match exCallF K byref O sl f args with
    | some res => bif nodupB (res.upd.map (·.1)) then some { res with upd := dropSame O res.upd } else none
    | none => none

theorem callD_ok {κ : Kap} {φ : Phi} {w : World} {s : SSt} {a : Act} (F : FRel κ φ w s a) {K : Kon} (hK : KSound P K) {diff byref : Bool} {sl f : Nat} {args : List RV} {vs : Array Value} {res : Res}
    (hx : exCallD diff K byref s.O sl f args = some res) (hc : ∀ b ∈ res.conds, b = true) (hl : vs.size = args.length)
    (hr : ∀ (i : Nat) (x : RV) (v : Value), args[i]? = some x → vs[i]? = some v → RVR κ φ s.O w.heap x v) :
    Calls P f vs w fun e w' => ∃ v κ' φ', e = .returned v ∧ FRel κ' φ' w' { s with O := updO s.O res.upd } a ∧ RVR κ' φ' (updO s.O res.upd) w'.heap res.val v ∧ Fr κ w κ' w' ∧ Kp φ s.O φ' (updO s.O res.upd) := by
  unfold exCallD at hx
  cases diff with
  | false => exact callF_ok F hK hx hc hl hr
  | true =>
    simp only at hx
    cases h : exCallF K byref s.O sl f args with
    | none => rw [h] at hx; simp at hx
    | some r0 =>
      rw [h] at hx; simp only at hx
      cases hn : nodupB (r0.upd.map (·.1)) with
      | false => rw [hn] at hx; simp at hx
      | true =>
        rw [hn] at hx; simp only [cond_true, Option.some.injEq] at hx; subst hx
        have := callF_ok F hK h hc hl hr
        simp only [updO_dropSame hn]
        exact this

def callOk (P : Program) (f : Nat) : Bool :=
  match P.funcs[f]? with
  | some fn => fn.body.isSome && (fn.name != "runtime.NumGoroutine")
  | none => false

theorem run_callFunc {f : Nat} (h : callOk P f = true) (vs : Array Value) (w : World) : (callFunc f vs).run P w = .ok (.enter f vs) w := by
  unfold callOk at h
  cases hf : P.funcs[f]? with
  | none => rw [hf] at h; simp at h
  | some fn =>
    rw [hf] at h
    simp only [Bool.and_eq_true, bne_iff_ne] at h
    simp only [callFunc, Sem.run_bind, run_program, Result.andThen_ok, hf]
    have h1 : (fn.name == "runtime.NumGoroutine") = false := by simpa using h.2
    have h2 : fn.body.isNone = false := by cases e : fn.body <;> simp_all
    simp [h1, h2]


structure Cfg where
  E : Env
  K : Kon
  byref : Nat → Bool
  callOk : Nat → Bool
  vm : Bool := false
  diff : Bool := false

def exPick (c a b : RV) : Option Res :=
  match c with
  | .d (.bool c) => match a, b with
    | .d (.bool x), .d (.bool y) => some { val := .d (.bool (bif c then x else y)) }
    | x, y => some { val := bif c then x else y }
  | _ => none

def exNil (x : RV) : Option Res :=
  match x with
  | .ptr i o => some { val := .ptr i o }
  | .eptr i sz idx o => some { val := .eptr i sz idx o }
  | .iptr y o => some { val := .iptr y o }
  | .clo (.func f) fs cs => some { val := .clo (.func f) fs cs }
  | _ => none

def exMakeFunc (O : Tab) (fn : Fn) (first caps : List RV) : Option Res :=
  match prepAll O (first ++ caps) with
  | some (l, u, c) => some { val := .clo fn (l.take first.length) (l.drop first.length), upd := u, conds := c }
  | none => none

def notIntB : Option TypeDesc → Bool
  | some (.int _) => false
  | some _ => true
  | none => false

def exBuiltin (cf : Cfg) (O : Tab) (sl : Nat) (b : Builtin) (tys : List Nat) (args : List RV) : Option Res :=
  match b, tys, args with
  | .len, [t], [x] => exLen cf.E O t x
  | .append, [t, t2], [x, y] => bif notIntB (cf.E.und t2) then exAppend cf.E O sl t x y else none
  | .min, _, [x, y] => exMinMax true x y
  | .max, _, [x, y] => exMinMax false x y
  | .delete, [t, _], [x, y] => exDelete cf.E O t x y
  | .clear, [t], [x] => exClear cf.E O t x
  | _, _, _ => none

/-- What an operation makes of a state's registers and objects; 'true': it gives no value. -/
def exOp0 (cf : Cfg) (R : Nat → RV) (O : Tab) (sl : Nat) (o : Oper) : Option (Res × Bool) :=
  let val (r : Option Res) : Option (Res × Bool) := match r with
    | some r => some (r, false)
    | none => none
  match o.op with
  | .move x => some ({ val := rvOf R x }, false)
  | .assign x => some ({ val := rvOf R x }, false)
  | .pick c a b => val (exPick (rvOf R c) (rvOf R a) (rvOf R b))
  | .alloc t => match cf.E.zero t with
    | some z => val (exAlloc cf.E O sl t (.d z))
    | none => none
  | .box t x => val (exAlloc cf.E O sl t (rvOf R x))
  | .build t parts => val (exBuild cf.E t (parts.toList.map fun p => (p.1, rvOf R p.2)))
  | .buildSlice t n parts => val (exBuildSlice cf.E O sl t n (parts.toList.map fun p => (p.1, rvOf R p.2)))
  | .load t x => val (exLoad cf.E O t (rvOf R x))
  | .store t x y => match exStore cf.E O t (rvOf R x) (rvOf R y) with
    | some r => some ({ r with val := .bot }, true)
    | none => none
  | .nilCheck x => val (exNil (rvOf R x))
  | .binOp op t x y _ => val (exBinO cf.E O op t (rvOf R x) (rvOf R y))
  | .unOp op _ x => val (exUn op (rvOf R x))
  | .convert s d x => val (exConv cf.E O sl s d (rvOf R x))
  | .slice t x lo hi mx => val (exSlice cf.E O t (rvOf R x) (lo.map (rvOf R)) (hi.map (rvOf R)) (mx.map (rvOf R)))
  | .fieldAddr t x f => val (exFieldAddr cf.E t (rvOf R x) f)
  | .field t x f => val (exField cf.E t (rvOf R x) f)
  | .indexAddr t x i => val (exIndexAddr cf.E O t (rvOf R x) (rvOf R i))
  | .index t x i => val (exIndex cf.E t (rvOf R x) (rvOf R i))
  | .extract x i => val (exExtract (rvOf R x) i)
  | .makeFunc fn first caps => val (exMakeFunc O fn (first.toList.map (rvOf R)) (caps.toList.map (rvOf R)))
  | .makeSlice t l c => val (exMakeSlice cf.E O sl t (rvOf R l) (rvOf R c))
  | .makeMap _ h => val (exMakeMap O sl (h.map (rvOf R)))
  | .lookup t x i ok => val (exLookup cf.E O t (rvOf R x) (rvOf R i) ok)
  | .mapUpdate t m k v => match exMapUpdate cf.E O t (rvOf R m) (rvOf R k) (rvOf R v) with
    | some r => some ({ r with val := .bot }, true)
    | none => none
  | .call c => match c.callee with
    | .builtin b => val (exBuiltin cf O sl b c.argTypes.toList (c.args.toList.map (rvOf R)))
    | .value f => match rvOf R f with
      | .clo (.func g) first caps => bif cf.callOk g then val (exCallD cf.diff cf.K (cf.byref g) O sl g (first ++ c.args.toList.map (rvOf R) ++ caps)) else none
      | _ => none
    | _ => none
  | _ => none

def isConst : Operand → Bool
  | .const _ => true
  | _ => false

def exNili (E : Env) (op : BinOp) (t : Nat) (x y : RV) : Option Res :=
  match E.und t, x, y with
  | some (.interface _), .d .nili, .d .nili => match eqOp op true with
    | some v => some { val := v }
    | none => none
  | _, _, _ => none

def valR (r : Option Res) : Option (Res × Bool) :=
  match r with
  | some r => some (r, false)
  | none => none

def mxI (x y : Int) : Int := if y > x then y else x

/-- The greatest of four numbers. -/
def exMax4 (x y z u : RV) : Option Res :=
  match x, y, z, u with
  | .d (.int k a), .d (.int _ b), .d (.int _ c), .d (.int _ d) => some { val := .d (.int k (mxI (mxI (mxI a b) c) d)) }
  | _, _, _, _ => none

/-- A slice's array: the pointer to its first cell. -/
def exS2A (E : Env) (t : Nat) (x : RV) : Option Res :=
  match E.und t, x with
  | some (.array n _), .sl i _ o len _ => bif Nat.ble 1 n && Nat.ble n len then some { val := .ptr i o } else none
  | _, _ => none

def exBuiltinR (E : Env) (O : Tab) (sl : Nat) (b : Builtin) (tys : List Nat) (args : List RV) : Option Res :=
  match b, tys, args with
  | .len, [t], [x] => exLenR E t x
  | .cap, [t], [x] => exCapR E t x
  | .append, [t, t2], [x, y] => bif notIntB (E.und t2) then exAppendR E O sl t x y else none
  | .copy, [t, _], [x, y] => exCopyR E O t x y
  | .clear, [t], [x] => exClearR E O t x
  | .max, _, [x, y, z, u] => exMax4 x y z u
  | _, _, _ => none

/-- An operation, slices by reference. -/
def exOpR (cf : Cfg) (R : Nat → RV) (O : Tab) (sl : Nat) (o : Oper) : Option (Res × Bool) :=
  match o.op with
  | .alloc t => match cf.E.zero t with
    | some z => valR (exAllocR cf.E O sl t (.d z))
    | none => none
  | .box t x => valR (exAllocR cf.E O sl t (rvOf R x))
  | .buildSlice t n parts => valR (exBuildSliceR cf.E O sl t n (parts.toList.map fun p => (p.1, rvOf R p.2)))
  | .load t x => valR (exLoadR cf.E O t (rvOf R x))
  | .store t x y => match exStoreR cf.E O t (rvOf R x) (rvOf R y) with
    | some r => some ({ r with val := .bot }, true)
    | none => none
  | .binOp op t x y _ => match exBinR cf.E op t (rvOf R x) (rvOf R y) with
    | some r => some (r, false)
    | none => bif isConst y then valR (exNili cf.E op t (rvOf R x) (rvOf R y)) else none
  | .convert s d x => valR (exConvR cf.E O sl s d (rvOf R x))
  | .slice t x lo hi mx => valR (exSliceR cf.E O t (rvOf R x) (lo.map (rvOf R)) (hi.map (rvOf R)) (mx.map (rvOf R)))
  | .indexAddr t x i => valR (exIndexAddrR cf.E t (rvOf R x) (rvOf R i))
  | .makeFunc fn first caps => some ({ val := .clo fn (first.toList.map (rvOf R)) (caps.toList.map (rvOf R)) }, false)
  | .makeSlice t l c => valR (exMakeSliceR cf.E O sl t (rvOf R l) (rvOf R c))
  | .range t x => valR (exRange cf.E O sl t (rvOf R x))
  | .next x str => valR (exNext O (rvOf R x) str)
  | .sliceToArrayPointer t x => valR (exS2A cf.E t (rvOf R x))
  | .call c => match c.callee with
    | .builtin b => valR (exBuiltinR cf.E O sl b c.argTypes.toList (c.args.toList.map (rvOf R)))
    | _ => none
  | _ => none

def isSlR : RV → Bool
  | .sl _ _ _ _ _ => true
  | .d (.lst 0 [] true) => true
  | .ptr _ _ => true
  | _ => false

def notI : RV → Bool
  | .iptr _ _ => false
  | _ => true
def notL : RV → Bool
  | .d (.lst _ (_ :: _) _) => false
  | _ => true

/-- Is this one of the operations that know slices by reference? -/
def isR (E : Env) (R : Nat → RV) (o : Oper) : Bool :=
  match o.op with
  | .alloc _ => true
  | .box _ _ => true
  | .buildSlice _ _ _ => true
  | .load _ x => notI (rvOf R x)
  | .store _ _ _ => true
  | .makeFunc _ _ _ => true
  | .makeSlice _ _ _ => true
  | .range _ _ => true
  | .next _ _ => true
  | .sliceToArrayPointer _ _ => true
  | .slice _ x _ _ _ => isSlR (rvOf R x)
  | .indexAddr _ x _ => notL (rvOf R x)
  | .binOp op t x y _ => match exBinR E op t (rvOf R x) (rvOf R y) with
    | some _ => true
    | none => isConst y && (exNili E op t (rvOf R x) (rvOf R y)).isSome
  | .convert s d x => match E.und s, E.und d, rvOf R x with
    | _, some (.slice _), _ => true
    | some (.slice _), some .string, _ => true
    | _, _, _ => false
  | .call c => match c.callee with
    | .builtin b => match b, c.args.toList.map (rvOf R) with
      | .len, [.sl _ _ _ _ _] => true
      | .cap, _ => true
      | .append, _ => true
      | .copy, _ => true
      | .clear, [x] => isSlR x
      | .max, [_, _, _, _] => true
      | _, _ => false
    | _ => false
  | _ => false

def exOp (cf : Cfg) (R : Nat → RV) (O : Tab) (sl : Nat) (o : Oper) : Option (Res × Bool) :=
  bif cf.vm && isR cf.E R o then exOpR cf R O sl o else exOp0 cf R O sl o

theorem max4_ok {κ : Kap} {φ : Phi} {w : World} {s : SSt} {a : Act} (F : FRel κ φ w s a) {x y z u : RV} {v1 v2 v3 v4 : Value} {res : Res} {tys : Array TypeId} {ty : Nat}
    (hx : exMax4 x y z u = some res) (r1 : RVR κ φ s.O w.heap x v1) (r2 : RVR κ φ s.O w.heap y v2) (r3 : RVR κ φ s.O w.heap z v3) (r4 : RVR κ φ s.O w.heap u v4) :
    Out P κ φ w s a res.val res.upd (Builtin.max_ tys ty #[v1, v2, v3, v4]) := by
  unfold exMax4 at hx
  split at hx
  · injection hx with hx; subst hx
    cases r1 with
    | d h1 =>
    cases r2 with
    | d h2 =>
    cases r3 with
    | d h3 =>
    cases r4 with
    | d h4 =>
    cases h1; cases h2; cases h3; cases h4
    exact Out.pure F (by simp only [Builtin.max_, Builtin.max2, List.foldlM_cons, List.foldlM_nil]; rfl) (.d (.int _ _))
  · simp at hx

theorem s2a_ok {κ : Kap} {φ : Phi} {w : World} {s : SSt} {a : Act} (F : FRel κ φ w s a) {t : Nat} {x : RV} {v : Value} {res : Res}
    (hx : exS2A (Env.of P) t x = some res) (r : RVR κ φ s.O w.heap x v) : Out P κ φ w s a res.val res.upd (Instr.arrayAt t v) := by
  unfold exS2A at hx
  split at hx
  · rename_i n e i sz o len cap hu
    cases hb : (Nat.ble 1 n && Nat.ble n len) with
    | false => rw [hb] at hx; simp at hx
    | true =>
      rw [hb] at hx; simp only [cond_true, Option.some.injEq] at hx; subst hx
      simp only [Bool.and_eq_true] at hb
      have h1 := Nat.le_of_ble_eq_true hb.1
      have h2 := Nat.le_of_ble_eq_true hb.2
      cases r with
      | sl hφ hb ho hs hle hcc hn =>
        rename_i b o' capv c ty fz
        have e : o' = o := by rcases ho with h | h <;> omega
        subst e
        exact Out.pure F (by simp only [Instr.arrayAt, Sem.run_bind, run_und hu, Result.andThen_ok, if_neg (Nat.not_lt.2 h2), Sem.run_pure]) (.ptr hφ)
  · simp at hx

structure CfOk (P : Program) (cf : Cfg) : Prop where
  E : cf.E = Env.of P
  K : KSound P cf.K
  call : ∀ f, cf.callOk f = true → callOk P f = true

theorem rvOf_ok {κ : Kap} {φ : Phi} {w : World} {s : SSt} {a : Act} (F : FRel κ φ w s a) (x : Operand) : RVR κ φ s.O w.heap (rvOf s.R x) (a.eval x) := by
  cases x with
  | tmp t => exact F.regs t
  | const v =>
    simp only [rvOf, Act.eval]
    cases h : DV.ofVal v with
    | none => exact .bot _
    | some x => exact .d (ofVal_DR h)
  | global g => exact .bot _
  | func f => exact .clo rfl rfl (by simp) (by simp)

theorem map_rel {κ : Kap} {φ : Phi} {w : World} {s : SSt} {a : Act} (F : FRel κ φ w s a) (l : Array Operand) : ∀ (i : Nat) (x : RV) (v : Value), (l.toList.map (rvOf s.R))[i]? = some x → (l.map a.eval)[i]? = some v → RVR κ φ s.O w.heap x v := by
  intro i x v hx hv
  simp only [List.getElem?_map, Array.getElem?_toList] at hx
  simp only [Array.getElem?_map] at hv
  cases h : l[i]? with
  | none => rw [h] at hx; simp at hx
  | some o => rw [h] at hx hv; simp at hx hv; subst hx; subst hv; exact rvOf_ok F o

theorem parts_rel {κ : Kap} {φ : Phi} {w : World} {s : SSt} {a : Act} (F : FRel κ φ w s a) (l : Array (Nat × Operand)) :
    (l.map fun (i, x) => (i, a.eval x)).size = (l.toList.map fun p => (p.1, rvOf s.R p.2)).length ∧
    ∀ (k : Nat) (p : Nat × RV) (q : Nat × Value), (l.toList.map fun p => (p.1, rvOf s.R p.2))[k]? = some p → (l.map fun (i, x) => (i, a.eval x))[k]? = some q → p.1 = q.1 ∧ RVR κ φ s.O w.heap p.2 q.2 := by
  refine ⟨by simp, fun k p q hp hq => ?_⟩
  simp only [List.getElem?_map, Array.getElem?_toList] at hp
  simp only [Array.getElem?_map] at hq
  cases h : l[k]? with
  | none => rw [h] at hp; simp at hp
  | some o => rw [h] at hp hq; simp at hp hq; subst hp; subst hq; exact ⟨rfl, rvOf_ok F o.2⟩

theorem opt_rel {κ : Kap} {φ : Phi} {w : World} {s : SSt} {a : Act} (F : FRel κ φ w s a) (l : Option Operand) : ORel κ φ s.O w.heap (l.map (rvOf s.R)) (l.map a.eval) := by
  cases l with
  | none => exact .none
  | some o => exact .some (rvOf_ok F o)

theorem pick_ok {κ : Kap} {φ : Phi} {w : World} {s : SSt} {a : Act} (F : FRel κ φ w s a) {x y z : RV} {v u t : Value} {res : Res}
    (hx : exPick x y z = some res) (r : RVR κ φ s.O w.heap x v) (r2 : RVR κ φ s.O w.heap y u) (r3 : RVR κ φ s.O w.heap z t) :
    Out P κ φ w s a res.val res.upd (do pure (if ← asBool v then u else t)) := by
  unfold exPick at hx
  split at hx
  · rename_i c
    cases r with
    | d hr =>
    cases hr
    have hrun : (do pure (if ← asBool (.bool c) then u else t) : Sem Value).run P w = .ok (if c then u else t) w := by simp [asBool]
    split at hx
    · injection hx with hx; subst hx
      cases r2 with
      | d h2 =>
      cases r3 with
      | d h3 =>
      cases h2; cases h3
      refine Out.pure F hrun (.d ?_)
      cases c <;> exact .bool _
    · injection hx with hx; subst hx
      refine Out.pure F hrun ?_
      cases c
      · exact r3
      · exact r2
  · simp at hx

theorem makeFunc_ok {κ : Kap} {φ : Phi} {w : World} {s : SSt} {a : Act} (F : FRel κ φ w s a) {fn : Fn} {fs cs : List RV} {f c : Array Value} {res : Res}
    (hx : exMakeFunc s.O fn fs cs = some res) (hc : ∀ b ∈ res.conds, b = true) (hl1 : f.size = fs.length) (hl2 : c.size = cs.length)
    (h1 : ∀ (i : Nat) (x : RV) (v : Value), fs[i]? = some x → f[i]? = some v → RVR κ φ s.O w.heap x v) (h2 : ∀ (i : Nat) (x : RV) (v : Value), cs[i]? = some x → c[i]? = some v → RVR κ φ s.O w.heap x v) :
    Out P κ φ w s a res.val res.upd (Instr.makeFunc fn f c) := by
  unfold exMakeFunc at hx
  cases hp : prepAll s.O (fs ++ cs) with
  | none => rw [hp] at hx; simp at hx
  | some p =>
    obtain ⟨l, u, cc⟩ := p
    rw [hp] at hx; simp only [Option.some.injEq] at hx; subst hx
    obtain ⟨κ1, q1, q2, q3, _, q5, q6⟩ := prepAll_ok F (Frzd.refl _) hp hc (vs := (f ++ c).toList) (by simp; omega) (fun i x v hx hv => by
      by_cases hi : i < fs.length
      · rw [List.getElem?_append_left hi] at hx
        simp only [Array.toList_append] at hv
        rw [List.getElem?_append_left (by simpa using by omega)] at hv
        exact h1 i x v hx (by simpa using hv)
      · rw [List.getElem?_append_right (by omega)] at hx
        simp only [Array.toList_append] at hv
        rw [List.getElem?_append_right (by simpa using by omega)] at hv
        refine h2 _ x v hx ?_
        rw [← hl1]; simpa using hv)
    refine ⟨.func fn f c, w, κ1, φ, rfl, q1, .clo (by simp at q5; simp; omega) (by simp at q5; simp; omega) (fun i x v hx hv => ?_) (fun i x v hx hv => ?_), q3, q2.kp⟩
    · rw [List.getElem?_take] at hx
      split at hx
      · refine q6 i x v hx ?_
        rw [Array.toList_append, List.getElem?_append_left (by simpa using by omega)]; simpa using hv
      · simp at hx
    · rw [List.getElem?_drop] at hx
      refine q6 _ x v hx ?_
      rw [Array.toList_append, List.getElem?_append_right (by simpa using by omega)]
      have : fs.length + i - f.toList.length = i := by simp; omega
      rw [this]; simpa using hv

theorem wp_value {o : Oper} {a : Act} {w w' : World} {next : Act → World → Prop} {Q : Exit → Act → World → Prop} {v : Value} (h : (execOp a.eval o).run P w = .ok (.value v) w') (hn : next (a.put o.dst v) w') : o.wp P a w next Q := by
  unfold Oper.wp; rw [h]; exact hn
theorem wp_skip' {o : Oper} {a : Act} {w w' : World} {next : Act → World → Prop} {Q : Exit → Act → World → Prop} (h : (execOp a.eval o).run P w = .ok .skip w') (hn : next (a.put o.dst undef) w') : o.wp P a w next Q := by
  unfold Oper.wp; rw [h]; exact hn

theorem op_wp0 {κ : Kap} {φ : Phi} {w : World} {s : SSt} {a : Act} {cf : Cfg} (hcf : CfOk P cf) (F : FRel κ φ w s a) {sl : Nat} {o : Oper} {res : Res} {un : Bool} {next : Act → World → Prop} {Q : Exit → Act → World → Prop}
    (hx : exOp0 cf s.R s.O sl o = some (res, un)) (hc : ∀ b ∈ res.conds, b = true)
    (hn : ∀ v w' κ' φ', FRel κ' φ' w' { s with O := updO s.O res.upd } a → RVR κ' φ' (updO s.O res.upd) w'.heap res.val v → Fr κ w κ' w' → Kp φ s.O φ' (updO s.O res.upd) → next (a.put o.dst v) w') :
    o.wp P a w next Q := by
  obtain ⟨hE, hK, hcall⟩ := hcf
  unfold exOp0 at hx
  rw [hE] at hx
  have fin : ∀ (m : Sem Value), execOp a.eval o = (do pure (Next.value (← m))) → Out P κ φ w s a res.val res.upd m → o.wp P a w next Q := by
    rintro m he ⟨v, w', κ', φ', h1, h2, h3, h4, h5⟩
    exact wp_value (by rw [he]; simp [h1]) (hn v w' κ' φ' h2 h3 h4 h5)
  have val : ∀ (r : Option Res), (match r with | some r => some (r, false) | none => none) = some (res, un) → r = some res := by
    intro r h; cases r with
    | none => simp at h
    | some r => simp at h; rw [h.1]
  cases ho : o.op <;> rw [ho] at hx <;> (try simp only at hx) <;> try (simp at hx; done)
  case move x =>
    injection hx with hx; injection hx with hx hx2; subst hx
    exact wp_value (v := a.eval x) (by simp [execOp, ho]) (hn _ w κ φ F (rvOf_ok F x) (Fr.refl _ _) (Kp.refl _ _))
  case assign x =>
    injection hx with hx; injection hx with hx hx2; subst hx
    exact wp_value (v := a.eval x) (by simp [execOp, ho]) (hn _ w κ φ F (rvOf_ok F x) (Fr.refl _ _) (Kp.refl _ _))
  case pick c x y =>
    have := pick_ok (P := P) F (val _ hx) (rvOf_ok F c) (rvOf_ok F x) (rvOf_ok F y)
    exact fin _ (by simp [execOp, ho]) this
  case alloc t =>
    cases hz : (Env.of P).zero t with
    | none => rw [hz] at hx; simp at hx
    | some z =>
      rw [hz] at hx; simp only at hx
      obtain ⟨i, v, h1, h2, h3⟩ := zero_of hz
      have := alloc_ok F (val _ hx) (v := v) (.d (ofVal_DR h3))
      obtain ⟨v', w', κ', φ', g1, g2, g3, g4, g5⟩ := this
      have hzr : (zeroValue t).run P w = .ok v w := by simp [zeroValue, typeInfo, h1, h2]
      refine wp_value (v := v') (w' := w') ?_ (hn v' w' κ' φ' g2 g3 g4 g5)
      simp only [Sem.run_bind, Sem.run_pure] at g1
      simp only [execOp, ho, Instr.alloc, Sem.run_bind, hzr, Result.andThen_ok, Sem.run_pure, g1]
  case box t x =>
    exact fin _ (by simp [execOp, ho, Instr.box]) (alloc_ok F (val _ hx) (rvOf_ok F x))
  case build t parts =>
    obtain ⟨p1, p2⟩ := parts_rel F parts
    exact fin _ (by simp only [execOp, ho]) (build_ok F (val _ hx) p1 p2)
  case buildSlice t n parts =>
    obtain ⟨p1, p2⟩ := parts_rel F parts
    exact fin _ (by simp only [execOp, ho]) (buildSlice_ok F (val _ hx) hc p1 p2)
  case load t x => exact fin _ (by simp only [execOp, ho]) (load_ok F (val _ hx) hc (rvOf_ok F x))
  case store t x y =>
    cases hs : exStore (Env.of P) s.O t (rvOf s.R x) (rvOf s.R y) with
    | none => rw [hs] at hx; simp at hx
    | some r =>
      rw [hs] at hx; simp only [Option.some.injEq, Prod.mk.injEq] at hx
      obtain ⟨rfl, rfl⟩ := hx
      obtain ⟨w', κ', φ', h1, h2, h3, h4⟩ := store_ok F hs hc (rvOf_ok F x) (rvOf_ok F y)
      exact wp_skip' (by simp only [execOp, ho]; simp [h1]) (hn _ w' κ' φ' h2 (.bot _) h3 h4)
  case nilCheck x =>
    have hv := val _ hx
    have r := rvOf_ok F x
    unfold exNil at hv
    cases hr : rvOf s.R x <;> rw [hr] at hv r <;> (try simp only at hv) <;> try (simp at hv; done)
    case ptr i off =>
      injection hv with hv; subst hv
      cases hv2 : a.eval x <;> rw [hv2] at r <;> try (cases r; done)
      rename_i ad
      cases r
      exact wp_value (by simp only [execOp, ho, hv2]; rfl) (hn _ w κ φ F (.ptr (by assumption)) (Fr.refl _ _) (Kp.refl _ _))
    case eptr i sz idx off =>
      injection hv with hv; subst hv
      cases hv2 : a.eval x <;> rw [hv2] at r <;> try (cases r; done)
      cases r
      exact wp_value (by simp only [execOp, ho, hv2]; rfl) (hn _ w κ φ F (.eptr (by assumption)) (Fr.refl _ _) (Kp.refl _ _))
    case iptr y off =>
      injection hv with hv; subst hv
      cases hv2 : a.eval x <;> rw [hv2] at r <;> try (cases r; done)
      have r' := r
      cases r
      exact wp_value (by simp only [execOp, ho, hv2]; rfl) (hn _ w κ φ F r' (Fr.refl _ _) (Kp.refl _ _))
    case clo fn fs cs =>
      cases fn <;> (try simp only at hv) <;> try (simp at hv; done)
      injection hv with hv; subst hv
      cases hv2 : a.eval x <;> rw [hv2] at r <;> try (cases r; done)
      have r' := r
      cases r
      exact wp_value (by simp only [execOp, ho, hv2]; rfl) (hn _ w κ φ F r' (Fr.refl _ _) (Kp.refl _ _))
  case binOp op t x y yt => exact fin _ (by simp only [execOp, ho]) (binO_ok (xo := x) (yo := y) F (val _ hx) hc (rvOf_ok F x) (rvOf_ok F y))
  case unOp op t x => exact fin _ (by simp only [execOp, ho]) (un_ok F (val _ hx) (rvOf_ok F x))
  case convert src dst x => exact fin _ (by simp only [execOp, ho]) (conv_ok F (val _ hx) hc (rvOf_ok F x))
  case slice t x lo hi mx => exact fin _ (by simp only [execOp, ho]) (slice_ok F (val _ hx) hc (rvOf_ok F x) (opt_rel F lo) (opt_rel F hi) (opt_rel F mx))
  case fieldAddr t x f => exact fin _ (by simp only [execOp, ho]) (fieldAddr_ok F (val _ hx) (rvOf_ok F x))
  case field t x f => exact fin _ (by simp only [execOp, ho]) (field_ok F (val _ hx) (rvOf_ok F x))
  case indexAddr t x i => exact fin _ (by simp only [execOp, ho]) (indexAddr_ok F (val _ hx) hc (rvOf_ok F x) (rvOf_ok F i))
  case index t x i => exact fin _ (by simp only [execOp, ho]) (index_ok F (val _ hx) hc (rvOf_ok F x) (rvOf_ok F i))
  case extract x i => exact fin _ (by simp only [execOp, ho]) (extract_ok F (val _ hx) (rvOf_ok F x))
  case makeFunc fn first caps =>
    exact fin _ (by simp only [execOp, ho]) (makeFunc_ok F (val _ hx) hc (by simp) (by simp) (map_rel F first) (map_rel F caps))
  case makeSlice t l c => exact fin _ (by simp only [execOp, ho]) (makeSlice_ok F (val _ hx) hc (rvOf_ok F l) (rvOf_ok F c))
  case makeMap t h =>
    have hv := val _ hx
    cases h with
    | none => exact fin _ (by simp only [execOp, ho]; rfl) (makeMap_ok (t := t) F hv)
    | some y => unfold exMakeMap at hv; simp only [Option.map_some] at hv; split at hv <;> simp_all
  case lookup t x i ok => exact fin _ (by simp only [execOp, ho]) (lookup_ok F (val _ hx) hc (rvOf_ok F x) (rvOf_ok F i))
  case mapUpdate t m k y =>
    cases hs : exMapUpdate (Env.of P) s.O t (rvOf s.R m) (rvOf s.R k) (rvOf s.R y) with
    | none => rw [hs] at hx; simp at hx
    | some r =>
      rw [hs] at hx; simp only [Option.some.injEq, Prod.mk.injEq] at hx
      obtain ⟨rfl, rfl⟩ := hx
      obtain ⟨w', κ', φ', h1, h2, h3, h4⟩ := mapUpdate_ok F hs hc (rvOf_ok F m) (rvOf_ok F k) (rvOf_ok F y)
      exact wp_skip' (by simp only [execOp, ho]; simp [h1]) (hn _ w' κ' φ' h2 (.bot _) h3 h4)
  case call c =>
    cases hcal : c.callee <;> rw [hcal] at hx <;> (try simp only at hx) <;> try (simp at hx; done)
    case builtin b =>
      have hv := val _ hx
      have hargs := map_rel F c.args
      have hexec : execOp a.eval o = builtin b c.argTypes o.type (c.args.map fun | .const _ => true | _ => false) (c.args.map a.eval) := by
        simp only [execOp, ho, resolve, hcal]; rfl
      have finB : ∀ (m : Sem Value), builtin b c.argTypes o.type (c.args.map fun | .const _ => true | _ => false) (c.args.map a.eval) = (do pure (Next.value (← m))) → Out P κ φ w s a res.val res.upd m → o.wp P a w next Q :=
        fun m h1 h2 => fin m (by rw [hexec, h1]) h2
      unfold exBuiltin at hv
      rw [hE] at hv
      have two : ∀ (n : Nat), (c.args.toList.map (rvOf s.R)).length = n → c.args.size = n := by intro n h; simpa using h
      split at hv
      · rename_i t x ht hargl
        have hsz : c.args.size = 1 := two 1 (by rw [hargl]; rfl)
        have ha : c.args.map a.eval = #[a.eval c.args[0]] := by
          apply Array.ext
          · simp [hsz]
          · intro i h1 h2; simp at h2; subst h2; simp
        have hty : c.argTypes = #[t] := by have := congrArg List.toArray ht; simpa using this
        have r0 := hargs 0 x (a.eval c.args[0]) (by rw [hargl]; rfl) (by rw [ha]; rfl)
        refine finB (Builtin.len_ #[t] o.type #[a.eval c.args[0]]) ?_ (len_ok F hv r0)
        rw [ha, hty]; rfl
      · rename_i t t2 x y ht hargl
        have hsz : c.args.size = 2 := two 2 (by rw [hargl]; rfl)
        have ha : c.args.map a.eval = #[a.eval c.args[0], a.eval c.args[1]] := by
          apply Array.ext
          · simp [hsz]
          · intro i h1 h2
            simp at h2
            have : i = 0 ∨ i = 1 := by omega
            rcases this with rfl | rfl <;> simp
        have hty : c.argTypes = #[t, t2] := by have := congrArg List.toArray ht; simpa using this
        have r0 := hargs 0 x (a.eval c.args[0]) (by rw [hargl]; rfl) (by rw [ha]; rfl)
        have r1 := hargs 1 y (a.eval c.args[1]) (by rw [hargl]; rfl) (by rw [ha]; rfl)
        cases hni : notIntB ((Env.of P).und t2) with
        | false => rw [hni] at hv; simp at hv
        | true =>
          rw [hni] at hv; simp only [cond_true] at hv
          cases hu2 : (Env.of P).und t2 with
          | none => rw [hu2] at hni; simp [notIntB] at hni
          | some d2 =>
            rw [hu2] at hni
            have hout := append_ok F hv hc hu2 (fun k e => by subst e; simp [notIntB] at hni) r0 r1
            refine finB (Builtin.append_ #[t, t2] o.type #[a.eval c.args[0], a.eval c.args[1]]) (by rw [ha, hty]; rfl) ?_
            exact hout
      · rename_i x y hargl
        have hsz : c.args.size = 2 := two 2 (by rw [hargl]; rfl)
        have ha : c.args.map a.eval = #[a.eval c.args[0], a.eval c.args[1]] := by
          apply Array.ext
          · simp [hsz]
          · intro i h1 h2
            simp at h2
            have : i = 0 ∨ i = 1 := by omega
            rcases this with rfl | rfl <;> simp
        have r0 := hargs 0 x (a.eval c.args[0]) (by rw [hargl]; rfl) (by rw [ha]; rfl)
        have r1 := hargs 1 y (a.eval c.args[1]) (by rw [hargl]; rfl) (by rw [ha]; rfl)
        refine finB (Builtin.min_ c.argTypes o.type #[a.eval c.args[0], a.eval c.args[1]]) (by rw [ha]; rfl) ?_
        have := minmax_ok (P := P) (tys := c.argTypes) (ty := o.type) F hv r0 r1
        simpa using this
      · rename_i x y hargl
        have hsz : c.args.size = 2 := two 2 (by rw [hargl]; rfl)
        have ha : c.args.map a.eval = #[a.eval c.args[0], a.eval c.args[1]] := by
          apply Array.ext
          · simp [hsz]
          · intro i h1 h2
            simp at h2
            have : i = 0 ∨ i = 1 := by omega
            rcases this with rfl | rfl <;> simp
        have r0 := hargs 0 x (a.eval c.args[0]) (by rw [hargl]; rfl) (by rw [ha]; rfl)
        have r1 := hargs 1 y (a.eval c.args[1]) (by rw [hargl]; rfl) (by rw [ha]; rfl)
        refine finB (Builtin.max_ c.argTypes o.type #[a.eval c.args[0], a.eval c.args[1]]) (by rw [ha]; rfl) ?_
        have := minmax_ok (P := P) (tys := c.argTypes) (ty := o.type) F hv r0 r1
        simpa using this
      · rename_i t t2 x y ht hargl
        have hsz : c.args.size = 2 := two 2 (by rw [hargl]; rfl)
        have ha : c.args.map a.eval = #[a.eval c.args[0], a.eval c.args[1]] := by
          apply Array.ext
          · simp [hsz]
          · intro i h1 h2
            simp at h2
            have : i = 0 ∨ i = 1 := by omega
            rcases this with rfl | rfl <;> simp
        have hty : c.argTypes = #[t, t2] := by have := congrArg List.toArray ht; simpa using this
        have r0 := hargs 0 x (a.eval c.args[0]) (by rw [hargl]; rfl) (by rw [ha]; rfl)
        have r1 := hargs 1 y (a.eval c.args[1]) (by rw [hargl]; rfl) (by rw [ha]; rfl)
        exact finB (Builtin.delete_ #[t, t2] o.type #[a.eval c.args[0], a.eval c.args[1]]) (by rw [ha, hty]; rfl) (delete_ok F hv hc r0 r1)
      · rename_i t x ht hargl
        have hsz : c.args.size = 1 := two 1 (by rw [hargl]; rfl)
        have ha : c.args.map a.eval = #[a.eval c.args[0]] := by
          apply Array.ext
          · simp [hsz]
          · intro i h1 h2; simp at h2; subst h2; simp
        have hty : c.argTypes = #[t] := by have := congrArg List.toArray ht; simpa using this
        have r0 := hargs 0 x (a.eval c.args[0]) (by rw [hargl]; rfl) (by rw [ha]; rfl)
        exact finB (Builtin.clear_ #[t] o.type #[a.eval c.args[0]]) (by rw [ha, hty]; rfl) (clear_ok F hv hc r0)
      · simp at hv
    case value f =>
      have rf := rvOf_ok F f
      cases hrf : rvOf s.R f <;> rw [hrf] at hx rf <;> (try simp only at hx) <;> try (simp at hx; done)
      rename_i fn first caps
      cases fn <;> (try simp only at hx) <;> try (simp at hx; done)
      rename_i g
      cases hok : cf.callOk g with
      | false => rw [hok] at hx; simp at hx
      | true =>
        rw [hok] at hx; simp only [cond_true] at hx
        have hv := val _ hx
        generalize hev : a.eval f = fv at rf
        cases rf with
        | clo h1 h2 h3 h4 =>
          rename_i fa ca
          have hargs := map_rel F c.args
          have hexec : (execOp a.eval o).run P w = .ok (.enter g (fa ++ c.args.map a.eval ++ ca)) w := by
            simp only [execOp, ho, resolve, hcal, hev, Deferred.ofValue, Sem.run_bind, Sem.run_pure, Result.andThen_ok, invoke]
            exact run_callFunc (hcall g hok) _ w
          have hcalls := callD_ok F hK hv hc (vs := fa ++ c.args.map a.eval ++ ca) (by simp; omega) (fun i x v hx hv => by
            by_cases k1 : i < first.length
            · rw [List.append_assoc, List.getElem?_append_left k1] at hx
              rw [Array.append_assoc, Array.getElem?_append_left (by omega)] at hv
              exact h3 i x v hx hv
            · rw [List.append_assoc, List.getElem?_append_right (by omega)] at hx
              rw [Array.append_assoc, Array.getElem?_append_right (by omega)] at hv
              by_cases k2 : i - first.length < c.args.size
              · rw [List.getElem?_append_left (by simpa using k2)] at hx
                rw [Array.getElem?_append_left (by simp; omega)] at hv
                exact hargs _ x v hx (by rw [← h1]; exact hv)
              · rw [List.getElem?_append_right (by simp; omega)] at hx
                rw [Array.getElem?_append_right (by simp; omega)] at hv
                refine h4 _ x v hx ?_
                rw [← hv]; congr 1; simp; omega)
          unfold Oper.wp
          rw [hexec]
          refine hcalls.mono ?_
          rintro e w' ⟨v, κ', φ', rfl, g1, g2, g3, g4⟩
          exact hn v w' κ' φ' g1 g2 g3 g4


theorem eq_nili (n t : Nat) {ms : Array (String × TypeId)} (hu : P.underlying t = some (.interface ms)) (w : World) : (Op.equalIn (n + 1) t .nilIface .nilIface).run P w = .ok true w := by
  simp [Op.equalIn, run_underlying hu]

theorem nili_ok {κ : Kap} {φ : Phi} {w : World} {s : SSt} {a : Act} (F : FRel κ φ w s a) {op : BinOp} {t : Nat} {x y : RV} {xo yo : Operand} {v u : Value} {res : Res} (hk : isConst yo = true)
    (hx : exNili (Env.of P) op t x y = some res) (r : RVR κ φ s.O w.heap x v) (r2 : RVR κ φ s.O w.heap y u) :
    Out P κ φ w s a res.val res.upd (do eqGuard op t xo yo v u; binOp op t v u) := by
  unfold exNili at hx
  split at hx
  · rename_i ms hu
    split at hx
    · rename_i z he
      injection hx with hx; subst hx
      cases r with
      | d hr =>
      cases hr
      cases r2 with
      | d hr2 =>
      cases hr2
      have g : (eqGuard op t xo yo .nilIface .nilIface).run P w = .ok () w := by
        unfold eqGuard
        cases yo <;> simp [isConst] at hk
        cases op <;> simp
      have hq : (Op.equal t .nilIface .nilIface).run P w = .ok true w := eq_nili (P := P) 9999 t hu w
      rcases eqOp_of he with ⟨rfl, rfl⟩ | ⟨rfl, rfl⟩
      · exact Out.pure F (v := .bool true) (by simp only [Sem.run_bind, g, Result.andThen_ok, binOp, hq, Sem.run_pure]) (.d (.bool _))
      · exact Out.pure F (v := .bool (!true)) (by simp only [Sem.run_bind, g, Result.andThen_ok, binOp, hq, Sem.run_pure]) (.d (.bool _))
    · simp at hx
  · simp at hx

theorem opR_wp {κ : Kap} {φ : Phi} {w : World} {s : SSt} {a : Act} {cf : Cfg} (hE : cf.E = Env.of P) (F : FRel κ φ w s a) {sl : Nat} {o : Oper} {res : Res} {un : Bool} {next : Act → World → Prop} {Q : Exit → Act → World → Prop}
    (hx : exOpR cf s.R s.O sl o = some (res, un)) (hc : ∀ b ∈ res.conds, b = true)
    (hn : ∀ v w' κ' φ', FRel κ' φ' w' { s with O := updO s.O res.upd } a → RVR κ' φ' (updO s.O res.upd) w'.heap res.val v → Fr κ w κ' w' → Kp φ s.O φ' (updO s.O res.upd) → next (a.put o.dst v) w') :
    o.wp P a w next Q := by
  unfold exOpR at hx
  rw [hE] at hx
  have fin : ∀ (m : Sem Value), execOp a.eval o = (do pure (Next.value (← m))) → Out P κ φ w s a res.val res.upd m → o.wp P a w next Q := by
    rintro m he ⟨v, w', κ', φ', h1, h2, h3, h4, h5⟩
    exact wp_value (by rw [he]; simp [h1]) (hn v w' κ' φ' h2 h3 h4 h5)
  have val : ∀ (r : Option Res), valR r = some (res, un) → r = some res := by
    intro r h; cases r with
    | none => simp [valR] at h
    | some r => simp [valR] at h; rw [h.1]
  cases ho : o.op <;> rw [ho] at hx <;> (try simp only at hx) <;> try (simp at hx; done)
  case alloc t =>
    cases hz : (Env.of P).zero t with
    | none => rw [hz] at hx; simp at hx
    | some z =>
      rw [hz] at hx; simp only at hx
      obtain ⟨i, v, h1, h2, h3⟩ := zero_of hz
      have := alloc_okR F (val _ hx) (v := v) (.d (ofVal_DR h3))
      obtain ⟨v', w', κ', φ', g1, g2, g3, g4, g5⟩ := this
      have hzr : (zeroValue t).run P w = .ok v w := by simp [zeroValue, typeInfo, h1, h2]
      refine wp_value (v := v') (w' := w') ?_ (hn v' w' κ' φ' g2 g3 g4 g5)
      simp only [Sem.run_bind, Sem.run_pure] at g1
      simp only [execOp, ho, Instr.alloc, Sem.run_bind, hzr, Result.andThen_ok, Sem.run_pure, g1]
  case box t x => exact fin _ (by simp [execOp, ho, Instr.box]) (alloc_okR F (val _ hx) (rvOf_ok F x))
  case buildSlice t n parts =>
    obtain ⟨p1, p2⟩ := parts_rel F parts
    exact fin _ (by simp only [execOp, ho]) (buildSlice_okR F (val _ hx) p1 p2)
  case load t x => exact fin _ (by simp only [execOp, ho]) (load_okR F (val _ hx) (rvOf_ok F x))
  case store t x y =>
    cases hs : exStoreR (Env.of P) s.O t (rvOf s.R x) (rvOf s.R y) with
    | none => rw [hs] at hx; simp at hx
    | some r =>
      rw [hs] at hx; simp only [Option.some.injEq, Prod.mk.injEq] at hx
      obtain ⟨rfl, rfl⟩ := hx
      obtain ⟨w', κ', φ', h1, h2, h3, h4⟩ := store_okR F hs (rvOf_ok F x) (rvOf_ok F y)
      exact wp_skip' (by simp only [execOp, ho]; simp [h1]) (hn _ w' κ' φ' h2 (.bot _) h3 h4)
  case binOp op t x y yt =>
    cases hb : exBinR (Env.of P) op t (rvOf s.R x) (rvOf s.R y) with
    | some r =>
      rw [hb] at hx; simp only [Option.some.injEq, Prod.mk.injEq] at hx
      obtain ⟨rfl, rfl⟩ := hx
      exact fin _ (by simp only [execOp, ho]) (bin_okR (xo := x) (yo := y) F hb (rvOf_ok F x) (rvOf_ok F y))
    | none =>
      rw [hb] at hx; simp only at hx
      cases hk : isConst y with
      | false => rw [hk] at hx; simp at hx
      | true =>
        rw [hk] at hx; simp only [cond_true] at hx
        exact fin _ (by simp only [execOp, ho]) (nili_ok (xo := x) (yo := y) F hk (val _ hx) (rvOf_ok F x) (rvOf_ok F y))
  case range t x => exact fin _ (by simp only [execOp, ho]) (range_ok F (val _ hx) (rvOf_ok F x))
  case sliceToArrayPointer t x => exact fin _ (by simp only [execOp, ho]) (s2a_ok F (val _ hx) (rvOf_ok F x))
  case next x str => exact fin (Instr.next (a.eval x) str o.type) (by simp only [execOp, ho]) (next_ok F (val _ hx) (rvOf_ok F x))
  case convert src dst x => exact fin _ (by simp only [execOp, ho]) (conv_okR F (val _ hx) (rvOf_ok F x))
  case slice t x lo hi mx => exact fin _ (by simp only [execOp, ho]) (slice_okR F (val _ hx) hc (rvOf_ok F x) (opt_rel F lo) (opt_rel F hi) (opt_rel F mx))
  case indexAddr t x i => exact fin _ (by simp only [execOp, ho]) (indexAddr_okR F (val _ hx) hc (rvOf_ok F x) (rvOf_ok F i))
  case makeFunc fn first caps =>
    simp only [Option.some.injEq, Prod.mk.injEq] at hx
    obtain ⟨rfl, rfl⟩ := hx
    exact fin _ (by simp only [execOp, ho]) (makeFunc_okR F (by simp) (by simp) (map_rel F first) (map_rel F caps))
  case makeSlice t l c => exact fin _ (by simp only [execOp, ho]) (makeSlice_okR F (val _ hx) hc (rvOf_ok F l) (rvOf_ok F c))
  case call c =>
    cases hcal : c.callee <;> rw [hcal] at hx <;> (try simp only at hx) <;> try (simp at hx; done)
    rename_i b
    have hv := val _ hx
    have hargs := map_rel F c.args
    have hexec : execOp a.eval o = builtin b c.argTypes o.type (c.args.map fun | .const _ => true | _ => false) (c.args.map a.eval) := by
      simp only [execOp, ho, resolve, hcal]; rfl
    have finB : ∀ (m : Sem Value), builtin b c.argTypes o.type (c.args.map fun | .const _ => true | _ => false) (c.args.map a.eval) = (do pure (Next.value (← m))) → Out P κ φ w s a res.val res.upd m → o.wp P a w next Q :=
      fun m h1 h2 => fin m (by rw [hexec, h1]) h2
    unfold exBuiltinR at hv
    have two : ∀ (n : Nat), (c.args.toList.map (rvOf s.R)).length = n → c.args.size = n := by intro n h; simpa using h
    have one1 : ∀ x, c.args.toList.map (rvOf s.R) = [x] → ∃ u, c.args.map a.eval = #[u] ∧ RVR κ φ s.O w.heap x u := by
      intro x hargl
      have hsz : c.args.size = 1 := two 1 (by rw [hargl]; rfl)
      have ha : c.args.map a.eval = #[a.eval c.args[0]] := by
        apply Array.ext
        · simp [hsz]
        · intro i h1 h2; simp at h2; subst h2; simp
      exact ⟨_, ha, hargs 0 x (a.eval c.args[0]) (by rw [hargl]; rfl) (by rw [ha]; rfl)⟩
    have two2 : ∀ x y, c.args.toList.map (rvOf s.R) = [x, y] → ∃ u v, c.args.map a.eval = #[u, v] ∧ RVR κ φ s.O w.heap x u ∧ RVR κ φ s.O w.heap y v := by
      intro x y hargl
      have hsz : c.args.size = 2 := two 2 (by rw [hargl]; rfl)
      have ha : c.args.map a.eval = #[a.eval c.args[0], a.eval c.args[1]] := by
        apply Array.ext
        · simp [hsz]
        · intro i h1 h2
          simp at h2
          have : i = 0 ∨ i = 1 := by omega
          rcases this with rfl | rfl <;> simp
      exact ⟨_, _, ha, hargs 0 x (a.eval c.args[0]) (by rw [hargl]; rfl) (by rw [ha]; rfl), hargs 1 y (a.eval c.args[1]) (by rw [hargl]; rfl) (by rw [ha]; rfl)⟩
    split at hv
    · rename_i t x ht hargl
      obtain ⟨u, ha, r0⟩ := one1 x hargl
      have hty : c.argTypes = #[t] := by have := congrArg List.toArray ht; simpa using this
      exact finB (Builtin.len_ #[t] o.type #[u]) (by rw [ha, hty]; rfl) (len_okR F hv r0)
    · rename_i t x ht hargl
      obtain ⟨u, ha, r0⟩ := one1 x hargl
      have hty : c.argTypes = #[t] := by have := congrArg List.toArray ht; simpa using this
      exact finB (Builtin.cap_ #[t] o.type #[u]) (by rw [ha, hty]; rfl) (cap_okR F hv r0)
    · rename_i t t2 x y ht hargl
      obtain ⟨u, v, ha, r0, r1⟩ := two2 x y hargl
      have hty : c.argTypes = #[t, t2] := by have := congrArg List.toArray ht; simpa using this
      cases hni : notIntB ((Env.of P).und t2) with
      | false => rw [hni] at hv; simp at hv
      | true =>
        rw [hni] at hv; simp only [cond_true] at hv
        cases hu2 : (Env.of P).und t2 with
        | none => rw [hu2] at hni; simp [notIntB] at hni
        | some d2 =>
          rw [hu2] at hni
          exact finB (Builtin.append_ #[t, t2] o.type #[u, v]) (by rw [ha, hty]; rfl) (append_okR F hv hc hu2 (fun k e => by subst e; simp [notIntB] at hni) r0 r1)
    · rename_i t t2 x y ht hargl
      obtain ⟨u, v, ha, r0, r1⟩ := two2 x y hargl
      have hty : c.argTypes = #[t, t2] := by have := congrArg List.toArray ht; simpa using this
      exact finB (Builtin.copy_ #[t, t2] o.type #[u, v]) (by rw [ha, hty]; rfl) (copy_okR F hv r0 r1)
    · rename_i t x ht hargl
      obtain ⟨u, ha, r0⟩ := one1 x hargl
      have hty : c.argTypes = #[t] := by have := congrArg List.toArray ht; simpa using this
      exact finB (Builtin.clear_ #[t] o.type #[u]) (by rw [ha, hty]; rfl) (clear_okR F hv r0)
    · rename_i x y z u hargl
      have hsz : c.args.size = 4 := two 4 (by rw [hargl]; rfl)
      have ha : c.args.map a.eval = #[a.eval c.args[0], a.eval c.args[1], a.eval c.args[2], a.eval c.args[3]] := by
        apply Array.ext
        · simp [hsz]
        · intro i h1 h2
          simp at h2
          have : i = 0 ∨ i = 1 ∨ i = 2 ∨ i = 3 := by omega
          rcases this with rfl | rfl | rfl | rfl <;> simp
      have r0 := hargs 0 x (a.eval c.args[0]) (by rw [hargl]; rfl) (by rw [ha]; rfl)
      have r1 := hargs 1 y (a.eval c.args[1]) (by rw [hargl]; rfl) (by rw [ha]; rfl)
      have r2 := hargs 2 z (a.eval c.args[2]) (by rw [hargl]; rfl) (by rw [ha]; rfl)
      have r3 := hargs 3 u (a.eval c.args[3]) (by rw [hargl]; rfl) (by rw [ha]; rfl)
      exact finB (Builtin.max_ c.argTypes o.type #[a.eval c.args[0], a.eval c.args[1], a.eval c.args[2], a.eval c.args[3]]) (by rw [ha]; rfl) (max4_ok F hv r0 r1 r2 r3)
    · simp at hv

theorem op_wp {κ : Kap} {φ : Phi} {w : World} {s : SSt} {a : Act} {cf : Cfg} (hcf : CfOk P cf) (F : FRel κ φ w s a) {sl : Nat} {o : Oper} {res : Res} {un : Bool} {next : Act → World → Prop} {Q : Exit → Act → World → Prop}
    (hx : exOp cf s.R s.O sl o = some (res, un)) (hc : ∀ b ∈ res.conds, b = true)
    (hn : ∀ v w' κ' φ', FRel κ' φ' w' { s with O := updO s.O res.upd } a → RVR κ' φ' (updO s.O res.upd) w'.heap res.val v → Fr κ w κ' w' → Kp φ s.O φ' (updO s.O res.upd) → next (a.put o.dst v) w') :
    o.wp P a w next Q := by
  unfold exOp at hx
  cases hv : (cf.vm && isR cf.E s.R o) with
  | false => rw [hv] at hx; exact op_wp0 hcf F hx hc hn
  | true => rw [hv] at hx; exact opR_wp hcf.E F hx hc hn

end Go.Am

/-
  The abstract machine: runs of straight code.
-/
namespace Go.Am
set_option linter.unusedSectionVars false
variable {P : Program} [Gl]

/-- A state, as tables: so many registers; the first objects are the caller's. -/
structure ESt where
  n : Nat
  m : Nat
  regs : T RV
  objs : T PObj

def regOf (t : T RV) (i : Nat) : RV :=
  match t.get i with
  | some v => v
  | none => .bot

def ESt.den (st : ESt) : SSt := { n := st.n, R := regOf st.regs, O := st.objs.get }

def setAll (o : T PObj) : List (Nat × PObj) → T PObj
  | [] => o
  | (i, p) :: r => setAll (o.set i (some p)) r

def smallU (u : List (Nat × PObj)) : Bool := u.all fun p => Nat.ble p.1 65000

theorem setAll_get : ∀ (u : List (Nat × PObj)) (o : T PObj), smallU u = true → (setAll o u).get = updO o.get u
  | [], _, _ => rfl
  | (i, p) :: r, o, h => by
    simp only [smallU, List.all_cons, Bool.and_eq_true] at h
    have hi := Nat.le_of_ble_eq_true h.1
    simp only [setAll]
    rw [setAll_get r _ h.2]
    have : (o.set i (some p)).get = setT o.get i (some p) := by
      funext j
      by_cases e : j = i
      · subst e; rw [T.get_set_same _ (by omega), setT_same]
      · rw [T.get_set_ne _ e, setT_ne _ _ e]
    rw [this]; rfl

theorem regOf_set {t : T RV} {d : Nat} (hd : d < 65535) (v : RV) : regOf (t.set d (some v)) = setR (regOf t) d v := by
  funext i
  unfold regOf setR
  by_cases e : i = d
  · subst e; rw [T.get_set_same _ hd]; simp
  · rw [T.get_set_ne _ e]; simp [e]

abbrev Ov := List (Nat × RV)

def findOv (d : Nat) : Ov → Option RV
  | [] => none
  | (t, v) :: r => bif Nat.beq t d then some v else findOv d r

/-- One value says no more than another one. -/
def RVle (x y : RV) : Prop := ∀ κ φ O h v, RVR κ φ O h x v → RVR κ φ O h y v
structure Acc where
  st : ESt
  cs : List Bool
  es : List (RV × RV)

def free8 (o : T PObj) (s : Nat) : Bool := (o.get s).isNone && (o.get (s + 1)).isNone && (o.get (s + 2)).isNone && (o.get (s + 3)).isNone && (o.get (s + 4)).isNone && (o.get (s + 5)).isNone && (o.get (s + 6)).isNone && (o.get (s + 7)).isNone

def findSlot (o : T PObj) : Nat → Nat → Nat
  | 0, s => s
  | f + 1, s => bif free8 o s then s else findSlot o f (s + 8)

/-- Where an operation's new objects lie: at its register's own place, or at the first that is free. -/
def slotOf (st : ESt) (o : Oper) : Nat :=
  bif free8 st.objs (match o.dst with | some d => 64 + 8 * d | none => 64 + 8 * st.n) then (match o.dst with | some d => 64 + 8 * d | none => 64 + 8 * st.n)
  else findSlot st.objs 4000 (64 + 8 * (st.n + 1))

/-- Does an operation's guard let it run? -/
def guardOf (R : Nat → RV) (ops : Array Oper) (o : Oper) : Option Bool :=
  match o.guard with
  | none => some true
  | some (j, want) => match ops[j]? with
    | some g => match g.dst with
      | some t => match R t with
        | .d (.bool b) => some (b == want)
        | .und => some false
        | _ => none
      | none => none
    | none => none

def putReg (st : ESt) (dst : Option Nat) (v : RV) : Option ESt :=
  match dst with
  | none => some st
  | some d => bif Nat.ble (d + 1) st.n && Nat.ble d 8000 then some { st with regs := st.regs.set d (some v) } else none

def runOp (cf : Cfg) (ops : Array Oper) (ov : Ov) (o : Oper) (ac : Acc) : Option Acc :=
  match guardOf (regOf ac.st.regs) ops o with
  | none => none
  | some false => match putReg ac.st o.dst .und with
    | some st => some { ac with st := st }
    | none => none
  | some true => match exOp cf (regOf ac.st.regs) ac.st.objs.get (slotOf ac.st o) o with
    | none => none
    | some (res, _) => bif smallU res.upd then
        match o.dst with
        | none => some { st := { ac.st with objs := setAll ac.st.objs res.upd }, cs := ac.cs ++ res.conds, es := ac.es }
        | some d => match findOv d ov with
          | none => match putReg { ac.st with objs := setAll ac.st.objs res.upd } (some d) res.val with
            | some st => some { st := st, cs := ac.cs ++ res.conds, es := ac.es }
            | none => none
          | some v => match putReg { ac.st with objs := setAll ac.st.objs res.upd } (some d) v with
            | some st => some { st := st, cs := ac.cs ++ res.conds, es := ac.es ++ [(res.val, v)] }
            | none => none
      else none

def runOps (cf : Cfg) (ops : Array Oper) (ov : Ov) : List Oper → Acc → Option Acc
  | [], ac => some ac
  | o :: r, ac => match runOp cf ops ov o ac with
    | some ac' => runOps cf ops ov r ac'
    | none => none

theorem putReg_den {st st' : ESt} {dst : Option Nat} {v : RV} (h : putReg st dst v = some st') : st'.n = st.n ∧ st'.m = st.m ∧ st'.objs = st.objs ∧
    ((dst = none ∧ st' = st) ∨ ∃ d, dst = some d ∧ d < st.n ∧ st'.den = { st.den with R := setR st.den.R d v }) := by
  unfold putReg at h
  cases dst with
  | none => injection h with h; subst h; exact ⟨rfl, rfl, rfl, .inl ⟨rfl, rfl⟩⟩
  | some d =>
    simp only at h
    cases hg : (Nat.ble (d + 1) st.n && Nat.ble d 8000) with
    | false => rw [hg] at h; simp at h
    | true =>
      rw [hg] at h; simp only [cond_true, Option.some.injEq] at h; subst h
      simp only [Bool.and_eq_true] at hg
      have h1 := Nat.le_of_ble_eq_true hg.1
      have h2 := Nat.le_of_ble_eq_true hg.2
      refine ⟨rfl, rfl, rfl, .inr ⟨d, rfl, by omega, ?_⟩⟩
      simp only [ESt.den, regOf_set (show d < 65535 by omega)]

theorem FRel.putReg {κ : Kap} {φ : Phi} {w : World} {st st' : ESt} {a : Act} {dst : Option Nat} {rv : RV} {v : Value} (F : FRel κ φ w st.den a) (h : Am.putReg st dst rv = some st')
    (hr : RVR κ φ st.den.O w.heap rv v) : FRel κ φ w st'.den (a.put dst v) := by
  obtain ⟨_, _, _, h4⟩ := putReg_den h
  rcases h4 with ⟨rfl, rfl⟩ | ⟨d, rfl, hd, e⟩
  · exact F.putNone v
  · rw [e]; exact F.put hd hr

theorem runOp_cs {cf : Cfg} {ops : Array Oper} {ov : Ov} {o : Oper} {ac ac' : Acc} (h : runOp cf ops ov o ac = some ac') : (∀ c ∈ ac.cs, c ∈ ac'.cs) ∧ (∀ e ∈ ac.es, e ∈ ac'.es) ∧ ac'.st.m = ac.st.m ∧ ac'.st.n = ac.st.n := by
  unfold runOp at h
  split at h
  · simp at h
  · split at h
    · rename_i st hp
      injection h with h; subst h
      obtain ⟨h1, h2, _⟩ := putReg_den hp
      exact ⟨fun c hc => hc, fun e he => he, h2, h1⟩
    · simp at h
  · split at h
    · simp at h
    · rename_i res un hex
      cases hs : smallU res.upd with
      | false => rw [hs] at h; simp at h
      | true =>
        rw [hs] at h; simp only [cond_true] at h
        split at h
        · injection h with h; subst h
          exact ⟨fun c hc => by simp [hc], fun e he => he, rfl, rfl⟩
        · split at h
          · split at h
            · rename_i st hp
              injection h with h; subst h
              obtain ⟨h1, h2, _⟩ := putReg_den hp
              exact ⟨fun c hc => by simp [hc], fun e he => he, h2, h1⟩
            · simp at h
          · split at h
            · rename_i st hp
              injection h with h; subst h
              obtain ⟨h1, h2, _⟩ := putReg_den hp
              exact ⟨fun c hc => by simp [hc], fun e he => by simp [he], h2, h1⟩
            · simp at h

theorem runOps_cs {cf : Cfg} {ops : Array Oper} {ov : Ov} : ∀ (l : List Oper) {ac ac' : Acc}, runOps cf ops ov l ac = some ac' → (∀ c ∈ ac.cs, c ∈ ac'.cs) ∧ (∀ e ∈ ac.es, e ∈ ac'.es) ∧ ac'.st.m = ac.st.m ∧ ac'.st.n = ac.st.n
  | [], ac, ac', h => by simp [runOps] at h; subst h; exact ⟨fun _ h => h, fun _ h => h, rfl, rfl⟩
  | o :: r, ac, ac', h => by
    simp only [runOps] at h
    cases h1 : runOp cf ops ov o ac with
    | none => rw [h1] at h; simp at h
    | some a1 =>
      rw [h1] at h; simp only at h
      obtain ⟨p1, p2, p3, p4⟩ := runOp_cs h1
      obtain ⟨q1, q2, q3, q4⟩ := runOps_cs r h
      exact ⟨fun c hc => q1 c (p1 c hc), fun e he => q2 e (p2 e he), q3.trans p3, q4.trans p4⟩

theorem guard_wanted {κ : Kap} {φ : Phi} {w : World} {s : SSt} {a : Act} (F : FRel κ φ w s a) {ops : Array Oper} {o : Oper} {g : Bool} (h : guardOf s.R ops o = some g)
    (hn : ∀ j want gg t, o.guard = some (j, want) → ops[j]? = some gg → gg.dst = some t → t < s.n) : Region.wanted o (yielded ops a.tmps) = g := by
  unfold guardOf at h
  unfold Region.wanted
  cases hg : o.guard with
  | none => rw [hg] at h; simp at h; simp [h]
  | some p =>
    obtain ⟨j, want⟩ := p
    rw [hg] at h; simp only at h
    cases ho : ops[j]? with
    | none => rw [ho] at h; simp at h
    | some gg =>
      rw [ho] at h; simp only at h
      cases hd : gg.dst with
      | none => rw [hd] at h; simp at h
      | some t =>
        rw [hd] at h; simp only at h
        have hr := F.regs t
        cases hR : s.R t <;> rw [hR] at h hr <;> (try simp only at h) <;> try (simp at h; done)
        case und =>
          injection h with h; subst h
          have hlt : t < a.tmps.size := by rw [F.n]; exact hn j want gg t hg ho hd
          generalize hv : a.tmps.getD t undef = v at hr
          cases hr
          have hget : a.tmps[t]? = some undef := by
            rw [Array.getElem?_eq_getElem hlt]
            rw [Array.getD_eq_getD_getElem?, Array.getElem?_eq_getElem hlt] at hv
            simpa using hv
          simp only [yielded, ho, Option.bind_some, hd, hget]
          cases want <;> rfl
        rename_i x
        cases x <;> (try simp only at h) <;> try (simp at h; done)
        rename_i b
        injection h with h; subst h
        have hlt : t < a.tmps.size := by rw [F.n]; exact hn j want gg t hg ho hd
        generalize hv : a.tmps.getD t undef = v at hr
        cases hr with
        | d hr =>
        cases hr
        have hget : a.tmps[t]? = some (.bool b) := by
          rw [Array.getElem?_eq_getElem hlt]
          rw [Array.getD_eq_getD_getElem?, Array.getElem?_eq_getElem hlt] at hv
          simpa using hv
        simp only [yielded, ho, Option.bind_some, hd, hget]
        cases b <;> cases want <;> rfl

/-- One operation, in a region's order. -/
theorem runOp_wp {κ : Kap} {φ : Phi} {w : World} {a : Act} {cf : Cfg} (hcf : CfOk P cf) {ops : Array Oper} {ov : Ov} {o : Oper} {ac ac' : Acc} (F : FRel κ φ w ac.st.den a)
    (h : runOp cf ops ov o ac = some ac') (hc : ∀ c ∈ ac'.cs, c = true) (he : ∀ e ∈ ac'.es, RVle e.1 e.2) {i : Nat} (hi : ops[i]? = some o)
    (hn : ∀ j want gg t, o.guard = some (j, want) → ops[j]? = some gg → gg.dst = some t → t < ac.st.n) {Q : Exit → Act → World → Prop} {K : Act → World → Prop}
    (hk : ∀ a' w' κ' φ', FRel κ' φ' w' ac'.st.den a' → Fr κ w κ' w' → Kp φ ac.st.den.O φ' ac'.st.den.O → K a' w') : wpOp P ops Q i K a w := by
  unfold runOp at h
  unfold wpOp
  rw [hi]; simp only
  split at h
  · simp at h
  · rename_i hg
    have hw := guard_wanted (s := ac.st.den) F hg hn
    rw [hw]
    simp only [Bool.false_eq_true, if_false]
    split at h
    · rename_i st hp
      injection h with h; subst h
      have hden := putReg_den hp
      refine hk _ _ κ φ (F.putReg hp .und) (Fr.refl _ _) ?_
      have : st.den.O = ac.st.den.O := by simp only [ESt.den, hden.2.2.1]
      simp only [this]; exact Kp.refl _ _
    · simp at h
  · rename_i hg
    have hw := guard_wanted (s := ac.st.den) F hg hn
    rw [hw]
    simp only [if_true]
    left
    split at h
    · simp at h
    · rename_i res un hex
      cases hs : smallU res.upd with
      | false => rw [hs] at h; simp at h
      | true =>
        rw [hs] at h; simp only [cond_true] at h
        have hO : (setAll ac.st.objs res.upd).get = updO ac.st.den.O res.upd := setAll_get _ _ hs
        have fin : ∀ (st : ESt) (rv : RV), putReg { ac.st with objs := setAll ac.st.objs res.upd } o.dst rv = some st → RVle res.val rv → (∀ c ∈ res.conds, c = true) → ac'.st = st →
            o.wp P a w K Q := by
          intro st rv hp hle hcc hst
          refine op_wp hcf F (sl := slotOf ac.st o) hex hcc (fun v w' κ' φ' g1 g2 g3 g4 => ?_)
          have F1 : FRel κ' φ' w' ({ ac.st with objs := setAll ac.st.objs res.upd } : ESt).den a := by
            have : ({ ac.st with objs := setAll ac.st.objs res.upd } : ESt).den = { ac.st.den with O := updO ac.st.den.O res.upd } := by simp only [ESt.den, hO]
            rw [this]; exact g1
          have hden := putReg_den hp
          have e2 : st.den.O = updO ac.st.den.O res.upd := by simp only [ESt.den, hden.2.2.1]; exact hO
          refine hk _ _ κ' φ' ?_ g3 ?_
          · rw [hst]
            refine F1.putReg hp (hle _ _ _ _ _ ?_)
            have : ({ ac.st with objs := setAll ac.st.objs res.upd } : ESt).den.O = updO ac.st.den.O res.upd := hO
            rw [this]; exact g2
          · rw [hst, e2]; exact g4
        split at h
        · rename_i hd
          injection h with h; subst h
          exact fin { ac.st with objs := setAll ac.st.objs res.upd } res.val (by rw [hd]; rfl) (fun _ _ _ _ _ r => r) (fun c hcc => hc c (by simp [hcc])) rfl
        · rename_i d hd
          split at h
          · split at h
            · rename_i st hp
              injection h with h; subst h
              exact fin st res.val (by rw [hd]; exact hp) (fun _ _ _ _ _ r => r) (fun c hcc => hc c (by simp [hcc])) rfl
            · simp at h
          · rename_i v hv
            split at h
            · rename_i st hp
              injection h with h; subst h
              exact fin st v (by rw [hd]; exact hp) (he (res.val, v) (by simp)) (fun c hcc => hc c (by simp [hcc])) rfl
            · simp at h

def guardsOk (n : Nat) (ops : Array Oper) : Bool := ops.toList.all fun o => match o.dst with
  | some t => Nat.ble (t + 1) n
  | none => true

theorem guardsOk_spec {n : Nat} {ops : Array Oper} (h : guardsOk n ops = true) : ∀ (j : Nat) (gg : Oper) (t : Nat), ops[j]? = some gg → gg.dst = some t → t < n := by
  intro j gg t hj ht
  have hm : gg ∈ ops.toList := List.mem_iff_getElem?.2 ⟨j, by simpa using hj⟩
  have := List.all_eq_true.1 h gg hm
  rw [ht] at this
  exact Nat.le_of_ble_eq_true this

theorem runOps_wp {cf : Cfg} (hcf : CfOk P cf) {ops : Array Oper} {ov : Ov} {Q : Exit → Act → World → Prop} : ∀ (l : List Oper) (k : Nat) {κ : Kap} {φ : Phi} {w : World} {a : Act} {ac ac' : Acc},
    FRel κ φ w ac.st.den a → runOps cf ops ov l ac = some ac' → (∀ c ∈ ac'.cs, c = true) → (∀ e ∈ ac'.es, RVle e.1 e.2) → guardsOk ac.st.n ops = true → (∀ i o, l[i]? = some o → ops[k + i]? = some o) →
    (∀ a' w' κ' φ', FRel κ' φ' w' ac'.st.den a' → Fr κ w κ' w' → Kp φ ac.st.den.O φ' ac'.st.den.O → Q .normal a' w') → wpOps P ops Q (List.range' k l.length) a w
  | [], k, κ, φ, w, a, ac, ac', F, h, hc, he, hg, hl, hk => by
    simp [runOps] at h; subst h
    exact hk a w κ φ F (Fr.refl _ _) (Kp.refl _ _)
  | o :: r, k, κ, φ, w, a, ac, ac', F, h, hc, he, hg, hl, hk => by
    simp only [runOps] at h
    cases h1 : runOp cf ops ov o ac with
    | none => rw [h1] at h; simp at h
    | some a1 =>
      rw [h1] at h; simp only at h
      obtain ⟨q1, q2, q3, q4⟩ := runOps_cs r h
      obtain ⟨p1, p2, p3, p4⟩ := runOp_cs h1
      have hk0 : ops[k]? = some o := by simpa using hl 0 o rfl
      simp only [List.length_cons, List.range'_succ]
      rw [wpOps_cons]
      refine runOp_wp hcf F h1 (fun c hc' => hc c (q1 c hc')) (fun e he' => he e (q2 e he')) hk0 (fun j want gg t _ hj ht => guardsOk_spec hg j gg t hj ht) (fun a' w' κ' φ' g1 g2 g3 => ?_)
      exact runOps_wp hcf r (k + 1) g1 h hc he (by rw [p4]; exact hg) (fun i o' hi => by have := hl (i + 1) o' (by simpa using hi); rw [← this]; congr 1; omega) (fun a2 w2 κ2 φ2 k1 k2 k3 => hk a2 w2 κ2 φ2 k1 (g2.trans k2) (g3.trans k3))

end Go.Am

/-
  The abstract machine: control; loops; a function's contract out of a run of its body.
-/
namespace Go.Am
set_option linter.unusedSectionVars false
variable {P : Program} [Gl]

inductive It where
  | code (c : Code)
  | blk (id : Nat)
  | lp (c : Code)
  | scp (c : Code)

def It.item : It → Item
  | .code c => .code c
  | .blk id => .inBlock id
  | .lp c => .inLoop c
  | .scp c => .inScope c

/-- The first objects lie where they lay. -/
structure KpM (m : Nat) (φ : Phi) (O : Tab) (φ' : Phi) (O' : Tab) : Prop where
  phi : ∀ i, i < m → φ i ≠ .un → φ' i = φ i
  len : ∀ i n, i < m → φ i ≠ .un → PObj.len? (O' i) = some n → PObj.len? (O i) = some n

theorem Kp.m {φ φ' : Phi} {O O' : Tab} (h : Kp φ O φ' O') (m : Nat) : KpM m φ O φ' O' := ⟨fun i _ hi => h.phi i hi, fun i n _ hi hn => h.len i n hi hn⟩
theorem KpM.refl (m : Nat) (φ : Phi) (O : Tab) : KpM m φ O φ O := (Kp.refl φ O).m m
theorem KpM.trans {m : Nat} {φ φ' φ'' : Phi} {O O' O'' : Tab} (a : KpM m φ O φ' O') (b : KpM m φ' O' φ'' O'') : KpM m φ O φ'' O'' where
  phi := fun i hm hi => by rw [b.phi i hm (by rw [a.phi i hm hi]; exact hi), a.phi i hm hi]
  len := fun i n hm hi hn => a.len i n hm hi (b.len i n hm (by rw [a.phi i hm hi]; exact hi) hn)

/-- From a state, with so much code ahead, a run comes to its end, in a state of which Q holds. -/
def WK (P : Program) (m : Nat) (k : List It) (s : SSt) (Q : SSt → Prop) : Prop :=
  ∀ (κ : Kap) (φ : Phi) (w : World) (a : Act), FRel κ φ w s a → ∀ (b : Frame) (cs : List Frame), ∃ e a' w' κ' φ' s', (e = .normal ∨ e = .ret) ∧ Q s' ∧ FRel κ' φ' w' s' a' ∧
    Fr κ w κ' w' ∧ KpM m φ s.O φ' s'.O ∧ Arrives P (lone (b.at a (k.map It.item)) cs w) b [] cs e a' w'

theorem WK.done {m : Nat} {s : SSt} {Q : SSt → Prop} (h : Q s) : WK P m [] s Q := fun κ φ w a F _ _ =>
  ⟨.normal, a, w, κ, φ, s, .inl rfl, h, F, Fr.refl _ _, KpM.refl _ _ _, Steps.refl _ _⟩

theorem WK.step {m : Nat} {k k' : List It} {s s' : SSt} {Q : SSt → Prop} (h : WK P m k' s' Q)
    (hs : ∀ κ φ w a, FRel κ φ w s a → ∃ κ' φ' w' a', FRel κ' φ' w' s' a' ∧ Fr κ w κ' w' ∧ KpM m φ s.O φ' s'.O ∧ ∀ (b : Frame) (cs : List Frame), Steps P (lone (b.at a (k.map It.item)) cs w) (lone (b.at a' (k'.map It.item)) cs w')) : WK P m k s Q := by
  intro κ φ w a F b cs
  obtain ⟨κ1, φ1, w1, a1, F1, R1, K1, S1⟩ := hs κ φ w a F
  obtain ⟨e, a', w', κ', φ', s2, h1, h2, h3, h4, h5, h6⟩ := h κ1 φ1 w1 a1 F1 b cs
  exact ⟨e, a', w', κ', φ', s2, h1, h2, h3, R1.trans h4, K1.trans h5, h6.of_steps (S1 b cs)⟩

/-- The same state, other code. -/
theorem WK.code {m : Nat} {k k' : List It} {s : SSt} {Q : SSt → Prop} (h : WK P m k' s Q) (hs : ∀ κ φ w a, FRel κ φ w s a → ∀ (b : Frame) (cs : List Frame), Steps P (lone (b.at a (k.map It.item)) cs w) (lone (b.at a (k'.map It.item)) cs w)) : WK P m k s Q :=
  h.step fun κ φ w a F => ⟨κ, φ, w, a, F, Fr.refl _ _, KpM.refl _ _ _, hs κ φ w a F⟩

/-- The same code, a state of which less is said. -/
theorem WK.state {m : Nat} {k : List It} {s s' : SSt} {Q : SSt → Prop} (h : WK P m k s' Q) (hs : ∀ κ φ w a, FRel κ φ w s a → ∃ κ' φ', FRel κ' φ' w s' a ∧ Fr κ w κ' w ∧ KpM m φ s.O φ' s'.O) : WK P m k s Q :=
  h.step fun κ φ w a F => let ⟨κ', φ', h1, h2, h3⟩ := hs κ φ w a F; ⟨κ', φ', w, a, h1, h2, h3, fun _ _ => Steps.refl _ _⟩

theorem WK.skip {m : Nat} {k : List It} {s : SSt} {Q : SSt → Prop} (h : WK P m k s Q) : WK P m (.code .skip :: k) s Q := h.code fun _ _ _ _ _ _ _ => .one step_skip
theorem WK.seq {m : Nat} {x y : Code} {k : List It} {s : SSt} {Q : SSt → Prop} (h : WK P m (.code x :: .code y :: k) s Q) : WK P m (.code (.seq x y) :: k) s Q := h.code fun _ _ _ _ _ _ _ => .one step_seq
theorem WK.block {m id : Nat} {x : Code} {k : List It} {s : SSt} {Q : SSt → Prop} (h : WK P m (.code x :: .blk id :: k) s Q) : WK P m (.code (.block id x) :: k) s Q := h.code fun _ _ _ _ _ _ _ => .one step_block
theorem WK.blk {m id : Nat} {k : List It} {s : SSt} {Q : SSt → Prop} (h : WK P m k s Q) : WK P m (.blk id :: k) s Q := h.code fun _ _ _ _ _ _ _ => .one step_inBlock
theorem WK.enter {m : Nat} {x : Code} {k : List It} {s : SSt} {Q : SSt → Prop} (h : WK P m (.code x :: .lp x :: k) s Q) : WK P m (.code (.loop x) :: k) s Q := h.code fun _ _ _ _ _ _ _ => .one step_loop
theorem WK.scope {m : Nat} {x : Code} {k : List It} {s : SSt} {Q : SSt → Prop} (h : WK P m (.code x :: .scp x :: k) s Q) : WK P m (.code (.scope x) :: k) s Q := h.code fun _ _ _ _ _ _ _ => .one step_scope
theorem WK.scp {m : Nat} {x : Code} {k : List It} {s : SSt} {Q : SSt → Prop} (h : WK P m k s Q) : WK P m (.scp x :: k) s Q := h.code fun _ _ _ _ _ _ _ => .one step_inScope
theorem WK.label {m l : Nat} {k : List It} {s : SSt} {Q : SSt → Prop} (h : WK P m k s Q) : WK P m (.code (.label l) :: k) s Q := h.code fun _ _ _ _ _ _ _ => .one step_label
theorem WK.again {m : Nat} {x : Code} {k : List It} {s : SSt} {Q : SSt → Prop} (h : WK P m (.code x :: .lp x :: k) s Q) : WK P m (.lp x :: k) s Q := h.code fun _ _ _ _ _ _ _ => .one step_inLoop
theorem WK.ret {m : Nat} {k : List It} {s : SSt} {Q : SSt → Prop} (h : Q s) : WK P m (.code .ret :: k) s Q := fun κ φ w a F _ _ =>
  ⟨.ret, a, w, κ, φ, s, .inr rfl, h, F, Fr.refl _ _, KpM.refl _ _ _, _, .one step_ret⟩

def exitT (id : Nat) : List It → Option (List It)
  | [] => none
  | .blk j :: k => bif Nat.beq j id then some k else exitT id k
  | .code _ :: k => exitT id k
  | .lp _ :: k => exitT id k
  | .scp _ :: k => exitT id k

theorem exitT_spec (id : Nat) : ∀ (k k' : List It), exitT id k = some k' → exitTo id (k.map It.item) = some (k'.map It.item)
  | [], k', h => by simp [exitT] at h
  | .blk j :: k, k', h => by
    simp only [exitT] at h
    simp only [List.map_cons, It.item, exitTo]
    cases hb : Nat.beq j id with
    | true => rw [hb] at h; simp at h; subst h; have := nbE hb; subst this; simp
    | false =>
      rw [hb] at h; simp only [cond_false] at h
      have hne : (j == id) = false := by
        cases e : j == id with
        | false => rfl
        | true => have := eq_of_beq e; subst this; rw [nbT rfl] at hb; cases hb
      simp [hne, exitT_spec id k k' h]
  | .code c :: k, k', h => by simp only [exitT] at h; simp [It.item, exitTo, exitT_spec id k k' h]
  | .lp c :: k, k', h => by simp only [exitT] at h; simp [It.item, exitTo, exitT_spec id k k' h]
  | .scp c :: k, k', h => by simp only [exitT] at h; simp [It.item, exitTo, exitT_spec id k k' h]

theorem WK.exit {m id : Nat} {k k' : List It} {s : SSt} {Q : SSt → Prop} (he : exitT id k = some k') (h : WK P m k' s Q) : WK P m (.code (.exit id) :: k) s Q :=
  h.code fun _ _ _ _ _ _ _ => .one (step_exit (exitT_spec id k k' he))

theorem WK.cond {m : Nat} {c : Operand} {x y : Code} {k : List It} {s : SSt} {Q : SSt → Prop} {t : Bool} (hc : rvOf s.R c = .d (.bool t)) (h : WK P m (.code (if t then x else y) :: k) s Q) : WK P m (.code (.cond c x y) :: k) s Q :=
  h.code fun κ φ w a F b cs => by
    have r := rvOf_ok F c
    rw [hc] at r
    generalize hv : a.eval c = v at r
    cases r with
    | d hr => cases hr; exact .one (step_cond hv)

/-- A region that is gone through in its own order. -/
theorem WK.region {m id : Nat} {ops : Array Oper} {k : List It} {s s' : SSt} {Q : SSt → Prop}
    (hr : ∀ κ φ w a, FRel κ φ w s a → wpOps P ops (fun e a' w' => e = .normal ∧ ∃ κ' φ', FRel κ' φ' w' s' a' ∧ Fr κ w κ' w' ∧ KpM m φ s.O φ' s'.O) (List.range ops.size) a w)
    (h : WK P m k s' Q) : WK P m (.code (.region id ops false) :: k) s Q := by
  intro κ φ w a F b cs
  obtain ⟨e, a1, w1, ⟨rfl, κ1, φ1, F1, R1, K1⟩, harr⟩ := wp_region (id := id) (hr κ φ w a F) b (k.map It.item) cs
  obtain ⟨e, a', w', κ', φ', s2, h1, h2, h3, h4, h5, h6⟩ := h κ1 φ1 w1 a1 F1 b cs
  exact ⟨e, a', w', κ', φ', s2, h1, h2, h3, R1.trans h4, K1.trans h5, h6.of_steps harr⟩

theorem WK.regionD {m id : Nat} {ops : Array Oper} {k : List It} {s s' : SSt} {Q : SSt → Prop} (hmix : P.follows .mixedOrders = true)
    (hr : ∀ κ φ w a, FRel κ φ w s a → wpAny P .any ops (fun e a' w' => e = .normal ∧ ∃ κ' φ', FRel κ' φ' w' s' a' ∧ Fr κ w κ' w' ∧ KpM m φ s.O φ' s'.O) ops.size (Array.replicate ops.size false) a w)
    (h : WK P m k s' Q) : WK P m (.code (.region id ops true) :: k) s Q := by
  intro κ φ w a F b cs
  have F' : FRel κ φ { w with drawn := w.drawn + 1 } s a := ⟨F.regs, F.objs, ⟨F.bnd.lt, F.bnd.gl⟩, F.n, F.df⟩
  obtain ⟨e, a1, w1, ⟨rfl, κ1, φ1, F1, R1, K1⟩, harr⟩ := wp_region_any (id := id) hmix (hr κ φ { w with drawn := w.drawn + 1 } a F') b (k.map It.item) cs
  obtain ⟨e, a', w', κ', φ', s2, h1, h2, h3, h4, h5, h6⟩ := h κ1 φ1 w1 a1 F1 b cs
  exact ⟨e, a', w', κ', φ', s2, h1, h2, h3, Fr.trans (κ' := κ1) (w' := w1) ⟨R1.size, R1.imm, R1.oth, R1.shp, R1.os, R1.out⟩ h4, K1.trans h5, h6.of_steps harr⟩

/-- A loop: each round's head is one of a family of states; each round goes on to one of less measure, or leaves the loop. -/
theorem WK.loop {m : Nat} {x : Code} {k : List It} {Q : SSt → Prop} {σ : Type} (S : σ → SSt) (inv : σ → Prop) (μ : σ → Nat)
    (round : ∀ y, inv y → (∀ z, inv z → μ z < μ y → WK P m (.lp x :: k) (S z) Q) → WK P m (.code x :: .lp x :: k) (S y) Q) :
    ∀ y, inv y → WK P m (.lp x :: k) (S y) Q := by
  have key : ∀ n y, μ y = n → inv y → WK P m (.lp x :: k) (S y) Q := by
    intro n
    induction n using Nat.strongRecOn with
    | _ n ih => exact fun y hn hy => .again (round y hy fun z hz hlt => ih (μ z) (hn ▸ hlt) z rfl hz)
  exact fun y hy => key _ y rfl hy

end Go.Am

/-
  The abstract machine: regions that draw their order, whose operations change no object.
-/
namespace Go.Am
set_option linter.unusedSectionVars false
variable {P : Program} [Gl]

theorem rvOf_congr {R R' : Nat → RV} {x : Operand} (h : ∀ t, x = .tmp t → R t = R' t) : rvOf R x = rvOf R' x := by
  cases x with
  | tmp t => exact h t rfl
  | _ => rfl

theorem map_congr' {R R' : Nat → RV} {l : List Operand} (h : ∀ x ∈ l, rvOf R x = rvOf R' x) : l.map (rvOf R) = l.map (rvOf R') := List.map_congr_left h

theorem exOp0_congr {cf : Cfg} {R R' : Nat → RV} {O : Tab} {sl : Nat} {o : Oper} (h : ∀ x ∈ o.op.operands, rvOf R x = rvOf R' x) : exOp0 cf R O sl o = exOp0 cf R' O sl o := by
  unfold exOp0
  cases ho : o.op <;> rw [ho] at h <;> simp only [Op.operands] at h
  case move x => simp [h x (by simp)]
  case assign x => simp [h x (by simp)]
  case pick c x y => simp only [h c (by simp), h x (by simp), h y (by simp)]
  case box t x => simp only [h x (by simp)]
  case build t parts =>
    have : (parts.toList.map fun p => (p.1, rvOf R p.2)) = (parts.toList.map fun p => (p.1, rvOf R' p.2)) := List.map_congr_left fun p hp => by
      rw [h p.2 (by simp; exact ⟨p.1, by simpa using hp⟩)]
    simp only [this]
  case buildSlice t n parts =>
    have : (parts.toList.map fun p => (p.1, rvOf R p.2)) = (parts.toList.map fun p => (p.1, rvOf R' p.2)) := List.map_congr_left fun p hp => by
      rw [h p.2 (by simp; exact ⟨p.1, by simpa using hp⟩)]
    simp only [this]
  case load t x => simp only [h x (by simp)]
  case store t x y => simp only [h x (by simp), h y (by simp)]
  case nilCheck x => simp only [h x (by simp)]
  case binOp op t x y yt => simp only [h x (by simp), h y (by simp)]
  case unOp op t x => simp only [h x (by simp)]
  case convert s d x => simp only [h x (by simp)]
  case slice t x lo hi mx =>
    have h1 : lo.map (rvOf R) = lo.map (rvOf R') := by cases lo with | none => rfl | some y => simp [h y (by simp)]
    have h2 : hi.map (rvOf R) = hi.map (rvOf R') := by cases hi with | none => rfl | some y => simp [h y (by simp)]
    have h3 : mx.map (rvOf R) = mx.map (rvOf R') := by cases mx with | none => rfl | some y => simp [h y (by simp)]
    simp only [h x (by simp), h1, h2, h3]
  case fieldAddr t x f => simp only [h x (by simp)]
  case field t x f => simp only [h x (by simp)]
  case indexAddr t x i => simp only [h x (by simp), h i (by simp)]
  case index t x i => simp only [h x (by simp), h i (by simp)]
  case extract x i => simp only [h x (by simp)]
  case makeFunc fn first caps =>
    have h1 : first.toList.map (rvOf R) = first.toList.map (rvOf R') := map_congr' fun x hx => h x (by simp; left; simpa using hx)
    have h2 : caps.toList.map (rvOf R) = caps.toList.map (rvOf R') := map_congr' fun x hx => h x (by simp; right; simpa using hx)
    simp only [h1, h2]
  case makeSlice t l c => simp only [h l (by simp), h c (by simp)]
  case makeMap t r =>
    have : r.map (rvOf R) = r.map (rvOf R') := by cases r with | none => rfl | some y => simp [h y (by simp)]
    simp only [this]
  case lookup t x i ok => simp only [h x (by simp), h i (by simp)]
  case mapUpdate t m k v => simp only [h m (by simp), h k (by simp), h v (by simp)]
  case call c =>
    have h1 : c.args.toList.map (rvOf R) = c.args.toList.map (rvOf R') := map_congr' fun x hx => h x (by simp [Call.operands]; right; simpa using hx)
    simp only [h1]
    cases hcal : c.callee with
    | value f => simp only [h f (by simp [Call.operands, hcal])]
    | _ => rfl
  all_goals rfl

theorem exOpR_congr {cf : Cfg} {R R' : Nat → RV} {O : Tab} {sl : Nat} {o : Oper} (h : ∀ x ∈ o.op.operands, rvOf R x = rvOf R' x) : exOpR cf R O sl o = exOpR cf R' O sl o := by
  unfold exOpR
  cases ho : o.op <;> rw [ho] at h <;> simp only [Op.operands] at h
  case box t x => try simp only [h x (by simp)]
  case buildSlice t n parts =>
    have : (parts.toList.map fun p => (p.1, rvOf R p.2)) = (parts.toList.map fun p => (p.1, rvOf R' p.2)) := List.map_congr_left fun p hp => by
      rw [h p.2 (by simp; exact ⟨p.1, by simpa using hp⟩)]
    try simp only [this]
  case load t x => try simp only [h x (by simp)]
  case store t x y => try simp only [h x (by simp), h y (by simp)]
  case binOp op t x y yt => try simp only [h x (by simp), h y (by simp)]
  case convert s d x => try simp only [h x (by simp)]
  case slice t x lo hi mx =>
    have h1 : lo.map (rvOf R) = lo.map (rvOf R') := by cases lo with | none => rfl | some y => simp [h y (by simp)]
    have h2 : hi.map (rvOf R) = hi.map (rvOf R') := by cases hi with | none => rfl | some y => simp [h y (by simp)]
    have h3 : mx.map (rvOf R) = mx.map (rvOf R') := by cases mx with | none => rfl | some y => simp [h y (by simp)]
    try simp only [h x (by simp), h1, h2, h3]
  case indexAddr t x i => try simp only [h x (by simp), h i (by simp)]
  case makeFunc fn first caps =>
    have h1 : first.toList.map (rvOf R) = first.toList.map (rvOf R') := map_congr' fun x hx => h x (by simp; left; simpa using hx)
    have h2 : caps.toList.map (rvOf R) = caps.toList.map (rvOf R') := map_congr' fun x hx => h x (by simp; right; simpa using hx)
    try simp only [h1, h2]
  case makeSlice t l c => try simp only [h l (by simp), h c (by simp)]
  case sliceToArrayPointer t x => try simp only [h x (by simp)]
  case range t x => try simp only [h x (by simp)]
  case next x str => try simp only [h x (by simp)]
  case call c =>
    have h1 : c.args.toList.map (rvOf R) = c.args.toList.map (rvOf R') := map_congr' fun x hx => h x (by simp [Call.operands]; right; simpa using hx)
    try simp only [h1]

theorem isR_congr {E : Env} {R R' : Nat → RV} {o : Oper} (h : ∀ x ∈ o.op.operands, rvOf R x = rvOf R' x) : isR E R o = isR E R' o := by
  unfold isR
  cases ho : o.op <;> rw [ho] at h <;> simp only [Op.operands] at h
  case binOp op t x y yt => try simp only [h x (by simp), h y (by simp)]
  case convert s d x => try simp only [h x (by simp)]
  case slice t x lo hi mx => simp only [h x (by simp)]
  case indexAddr t x i => simp only [h x (by simp)]
  case load t x => simp only [h x (by simp)]
  case call c =>
    have h1 : c.args.toList.map (rvOf R) = c.args.toList.map (rvOf R') := map_congr' fun x hx => h x (by simp [Call.operands]; right; simpa using hx)
    try simp only [h1]

theorem exOp_congr {cf : Cfg} {R R' : Nat → RV} {O : Tab} {sl : Nat} {o : Oper} (h : ∀ x ∈ o.op.operands, rvOf R x = rvOf R' x) : exOp cf R O sl o = exOp cf R' O sl o := by
  unfold exOp
  rw [isR_congr h, exOpR_congr h, exOp0_congr h]

/-- An operation that changes no object: the value that it gives, what it asks, what is said of it. -/
def qVal (cf : Cfg) (ops : Array Oper) (ov : Ov) (R : Nat → RV) (O : Tab) (o : Oper) : Option (RV × List Bool × List (RV × RV)) :=
  match guardOf R ops o with
  | none => none
  | some false => some (.und, [], [])
  | some true => match exOp cf R O 0 o with
    | none => none
    | some (res, _) => bif res.upd.isEmpty then
        match o.dst with
        | none => some (.bot, res.conds, [])
        | some d => match findOv d ov with
          | none => some (res.val, res.conds, [])
          | some v => some (v, res.conds, [(res.val, v)])
      else none

def setD (R : Nat → RV) (dst : Option Nat) (v : RV) : Nat → RV :=
  match dst with
  | none => R
  | some d => setR R d v

theorem FRel.setD {κ : Kap} {φ : Phi} {w : World} {s : SSt} {a : Act} (F : FRel κ φ w s a) {dst : Option Nat} {rv : RV} {v : Value} (hd : ∀ d, dst = some d → d < s.n)
    (hr : RVR κ φ s.O w.heap rv v) : FRel κ φ w { s with R := Am.setD s.R dst rv } (a.put dst v) := by
  cases dst with
  | none => exact F.putNone v
  | some d => exact F.put (hd d rfl) hr

theorem qVal_wp {κ : Kap} {φ : Phi} {w : World} {s : SSt} {a : Act} {cf : Cfg} (hcf : CfOk P cf) {ops : Array Oper} {ov : Ov} {o : Oper} {v : RV} {cs : List Bool} {es : List (RV × RV)} (F : FRel κ φ w s a)
    (h : qVal cf ops ov s.R s.O o = some (v, cs, es)) (hc : ∀ c ∈ cs, c = true) (he : ∀ e ∈ es, RVle e.1 e.2) {i : Nat} (hi : ops[i]? = some o)
    (hn : ∀ (j : Nat) (gg : Oper) (t : Nat), ops[j]? = some gg → gg.dst = some t → t < s.n) {Q : Exit → Act → World → Prop} {K : Act → World → Prop}
    (hk : ∀ a' w' κ' φ', FRel κ' φ' w' { s with R := setD s.R o.dst v } a' → Fr κ w κ' w' → Kp φ s.O φ' s.O → K a' w') : wpOp P ops Q i K a w := by
  unfold qVal at h
  unfold wpOp
  rw [hi]; simp only
  have hdst : ∀ d, o.dst = some d → d < s.n := fun d hd => hn i o d hi hd
  split at h
  · simp at h
  · rename_i hg
    rw [guard_wanted F hg (fun j want gg t _ hj ht => hn j gg t hj ht)]
    simp only [Bool.false_eq_true, if_false]
    injection h with h; injection h with h1 h2; subst h1
    exact hk _ _ κ φ (F.setD hdst .und) (Fr.refl _ _) (Kp.refl _ _)
  · rename_i hg
    rw [guard_wanted F hg (fun j want gg t _ hj ht => hn j gg t hj ht)]
    simp only [if_true]
    left
    split at h
    · simp at h
    · rename_i res un hex
      cases hu : res.upd.isEmpty with
      | false => rw [hu] at h; simp at h
      | true =>
        rw [hu] at h; simp only [cond_true] at h
        have hu' : res.upd = [] := by simpa using hu
        have fin : ∀ rv, v = rv → RVle res.val rv ∨ o.dst = none → (∀ c ∈ res.conds, c = true) → o.wp P a w K Q := by
          rintro rv rfl hle hcc
          refine op_wp hcf F (sl := 0) hex hcc (fun u w' κ' φ' g1 g2 g3 g4 => ?_)
          rw [hu'] at g1 g2 g4
          refine hk _ _ κ' φ' ?_ g3 g4
          rcases hle with hle | hle
          · exact FRel.setD (s := s) g1 hdst (hle _ _ _ _ _ g2)
          · rw [hle]; exact g1
        split at h
        · rename_i hd
          injection h with h; injection h with h1 h2; injection h2 with h2 h3; subst h2
          exact fin v rfl (.inr hd) hc
        · split at h
          · injection h with h; injection h with h1 h2; injection h2 with h2 h3; subst h2
            exact fin v rfl (.inl (h1 ▸ fun _ _ _ _ _ r => r)) hc
          · rename_i vv hv
            injection h with h; injection h with h1 h2; injection h2 with h2 h3; subst h2; subst h3; subst h1
            exact fin _ rfl (.inl (he (res.val, vv) (by simp))) hc

/-- The order that a region leaves open does no harm: what an operation looks at is written by operations that it is bound to be behind, or by none. -/
def looks (o : Oper) (ops : Array Oper) : List Nat :=
  o.op.operands.toList.filterMap (fun x => match x with | .tmp t => some t | _ => none) ++
  (match o.guard with
    | some (j, _) => match ops[j]? with
      | some g => g.dst.toList
      | none => []
    | none => [])

def edgeTo (o : Oper) (i : Nat) : Bool := o.after.any fun e => Nat.beq e.on i && Region.binds .any e

def quietAt (ops : Array Oper) (j : Nat) (o : Oper) : Bool :=
  (o.after.all fun e => !(Region.binds .any e) || Nat.ble (e.on + 1) j) &&
  ops.toList.zipIdx.all fun (p, i) => match p.dst with
    | none => true
    | some d => (Nat.beq i j || (match o.dst with | some d' => !(Nat.beq d d') | none => true)) &&
        (!((looks o ops).any fun t => Nat.beq t d) || (Nat.ble (i + 1) j && edgeTo o i) || (Nat.ble (j + 1) i && edgeTo p j))

def quietOk (ops : Array Oper) : Bool := ops.toList.zipIdx.all fun (o, j) => quietAt ops j o

theorem quietOk_spec {ops : Array Oper} (h : quietOk ops = true) {j : Nat} {o : Oper} (hj : ops[j]? = some o) :
    (∀ e ∈ o.after, Region.binds .any e = true → e.on < j) ∧
    ∀ (i : Nat) (p : Oper) (d : Nat), ops[i]? = some p → p.dst = some d → (i = j ∨ o.dst ≠ some d) ∧ (d ∈ looks o ops → (i < j ∧ ∃ e ∈ o.after, e.on = i ∧ Region.binds .any e = true) ∨ (j < i ∧ ∃ e ∈ p.after, e.on = j ∧ Region.binds .any e = true)) := by
  have hm : (o, j) ∈ ops.toList.zipIdx := by
    rw [List.mem_zipIdx_iff_getElem?]; simpa using hj
  have h1 := List.all_eq_true.1 h _ hm
  simp only [quietAt, Bool.and_eq_true] at h1
  refine ⟨fun e he hb => ?_, fun i p d hi hd => ?_⟩
  · have := Array.all_eq_true'.1 h1.1 e he
    simp only [Bool.or_eq_true, Bool.not_eq_true'] at this
    rcases this with this | this
    · rw [hb] at this; cases this
    · exact Nat.le_of_ble_eq_true this
  · have hm2 : (p, i) ∈ ops.toList.zipIdx := by
      rw [List.mem_zipIdx_iff_getElem?]; simpa using hi
    have h2 := List.all_eq_true.1 h1.2 _ hm2
    simp only [hd, Bool.and_eq_true, Bool.or_eq_true, Bool.not_eq_true'] at h2
    refine ⟨?_, fun hl => ?_⟩
    · rcases h2.1 with h3 | h3
      · exact .inl (nbE h3)
      · right
        intro e
        rw [e] at h3; simp only [Bool.not_eq_true'] at h3
        rw [nbT rfl] at h3; cases h3
    · rcases h2.2 with (h3 | h3) | h3
      · exfalso
        have := List.any_eq_false.1 h3 d hl
        rw [nbT rfl] at this; simp at this
      · refine .inl ⟨Nat.le_of_ble_eq_true h3.1, ?_⟩
        have h4 := h3.2
        simp only [edgeTo, Array.any_eq_true', Bool.and_eq_true] at h4
        obtain ⟨e, he1, he2, he3⟩ := h4
        exact ⟨e, he1, nbE he2, he3⟩
      · refine .inr ⟨Nat.le_of_ble_eq_true h3.1, ?_⟩
        have h4 := h3.2
        simp only [edgeTo, Array.any_eq_true', Bool.and_eq_true] at h4
        obtain ⟨e, he1, he2, he3⟩ := h4
        exact ⟨e, he1, nbE he2, he3⟩

/-- The region gone through in its own order: each operation's value. -/
def runQ (cf : Cfg) (ops : Array Oper) (ov : Ov) (O : Tab) : List Oper → (T RV) → List Bool → List (RV × RV) → Option (T RV × List Bool × List (RV × RV))
  | [], t, cs, es => some (t, cs, es)
  | o :: r, t, cs, es => match qVal cf ops ov (regOf t) O o with
    | none => none
    | some (v, c, e) => match o.dst with
      | none => runQ cf ops ov O r t (cs ++ c) (es ++ e)
      | some d => bif Nat.ble d 8000 then runQ cf ops ov O r (t.set d (some v)) (cs ++ c) (es ++ e) else none

theorem runQ_mono {cf : Cfg} {ops : Array Oper} {ov : Ov} {O : Tab} : ∀ (l : List Oper) (t t' : T RV) (cs cs' : List Bool) (es es' : List (RV × RV)), runQ cf ops ov O l t cs es = some (t', cs', es') →
    (∀ c ∈ cs, c ∈ cs') ∧ (∀ e ∈ es, e ∈ es') ∧ (∀ d, (∀ o ∈ l, o.dst ≠ some d) → regOf t' d = regOf t d)
  | [], t, t', cs, cs', es, es', h => by
    simp [runQ] at h; obtain ⟨rfl, rfl, rfl⟩ := h; exact ⟨fun _ h => h, fun _ h => h, fun _ _ => rfl⟩
  | o :: r, t, t', cs, cs', es, es', h => by
    simp only [runQ] at h
    cases h1 : qVal cf ops ov (regOf t) O o with
    | none => rw [h1] at h; simp at h
    | some p =>
      obtain ⟨v, c, e⟩ := p
      rw [h1] at h; simp only at h
      cases hd : o.dst with
      | none =>
        rw [hd] at h; simp only at h
        obtain ⟨q1, q2, q3⟩ := runQ_mono r _ _ _ _ _ _ h
        exact ⟨fun c hc => q1 c (by simp [hc]), fun e he => q2 e (by simp [he]), fun d hh => q3 d (fun o ho => hh o (by simp [ho]))⟩
      | some d0 =>
        rw [hd] at h; simp only at h
        cases hb : Nat.ble d0 8000 with
        | false => rw [hb] at h; simp at h
        | true =>
          rw [hb] at h; simp only [cond_true] at h
          obtain ⟨q1, q2, q3⟩ := runQ_mono r _ _ _ _ _ _ h
          have hle := Nat.le_of_ble_eq_true hb
          refine ⟨fun c hc => q1 c (by simp [hc]), fun e he => q2 e (by simp [he]), fun d hh => ?_⟩
          rw [q3 d (fun o ho => hh o (by simp [ho])), regOf_set (by omega)]
          have : d ≠ d0 := fun e => hh o (by simp) (by rw [hd, e])
          simp [setR, this]

/-- What stands before each operation, and what it gives. -/
theorem runQ_at {cf : Cfg} {ops : Array Oper} {ov : Ov} {O : Tab} : ∀ (l : List Oper) (t t' : T RV) (cs cs' : List Bool) (es es' : List (RV × RV)), runQ cf ops ov O l t cs es = some (t', cs', es') →
    (∀ (i j : Nat) (p q : Oper) (d : Nat), l[i]? = some p → l[j]? = some q → p.dst = some d → q.dst = some d → i = j) →
    ∀ (j : Nat) (o : Oper), l[j]? = some o → ∃ (R : Nat → RV) (v : RV) (c : List Bool) (e : List (RV × RV)), qVal cf ops ov R O o = some (v, c, e) ∧ (∀ x ∈ c, x ∈ cs') ∧ (∀ x ∈ e, x ∈ es') ∧
      (∀ d, o.dst = some d → regOf t' d = v) ∧ (∀ d, (∀ (i : Nat) (p : Oper), i < j → l[i]? = some p → p.dst ≠ some d) → R d = regOf t d) ∧
      (∀ (i : Nat) (p : Oper) (d : Nat), i < j → l[i]? = some p → p.dst = some d → R d = regOf t' d)
  | [], t, t', cs, cs', es, es', h, hnd, j, o, hj => by simp at hj
  | o0 :: r, t, t', cs, cs', es, es', h, hnd, j, o, hj => by
    simp only [runQ] at h
    cases h1 : qVal cf ops ov (regOf t) O o0 with
    | none => rw [h1] at h; simp at h
    | some p =>
      obtain ⟨v, c, e⟩ := p
      rw [h1] at h; simp only at h
      have hnd' : ∀ (i j : Nat) (p q : Oper) (d : Nat), r[i]? = some p → r[j]? = some q → p.dst = some d → q.dst = some d → i = j := fun i j p q d hi hj' hp hq => by
        have := hnd (i + 1) (j + 1) p q d (by simpa using hi) (by simpa using hj') hp hq; omega
      -- the table behind the first operation
      have tail : ∀ (t1 : T RV), runQ cf ops ov O r t1 (cs ++ c) (es ++ e) = some (t', cs', es') → (∀ d, o0.dst ≠ some d → regOf t1 d = regOf t d) → (∀ d, o0.dst = some d → regOf t1 d = v) →
          ∃ (R : Nat → RV) (v : RV) (c : List Bool) (e : List (RV × RV)), qVal cf ops ov R O o = some (v, c, e) ∧ (∀ x ∈ c, x ∈ cs') ∧ (∀ x ∈ e, x ∈ es') ∧
            (∀ d, o.dst = some d → regOf t' d = v) ∧ (∀ d, (∀ (i : Nat) (p : Oper), i < j → (o0 :: r)[i]? = some p → p.dst ≠ some d) → R d = regOf t d) ∧
            (∀ (i : Nat) (p : Oper) (d : Nat), i < j → (o0 :: r)[i]? = some p → p.dst = some d → R d = regOf t' d) := by
        intro t1 hr ht1 ht2
        obtain ⟨m1, m2, m3⟩ := runQ_mono r _ _ _ _ _ _ hr
        cases j with
        | zero =>
          simp at hj; subst hj
          refine ⟨regOf t, v, c, e, h1, fun x hx => m1 x (by simp [hx]), fun x hx => m2 x (by simp [hx]), fun d hd => ?_, fun d _ => rfl, fun i p d hi => by omega⟩
          rw [m3 d (fun q hq hqd => by
            obtain ⟨k, hk⟩ := List.mem_iff_getElem?.1 hq
            have := hnd 0 (k + 1) o0 q d rfl (by simpa using hk) hd hqd; omega)]
          exact ht2 d hd
        | succ j =>
          obtain ⟨R, v', c', e', k1, k2, k3, k4, k5, k6⟩ := runQ_at r t1 t' _ _ _ _ hr hnd' j o (by simpa using hj)
          refine ⟨R, v', c', e', k1, k2, k3, k4, fun d hd => ?_, fun i p d hi hp hpd => ?_⟩
          · rw [k5 d (fun i p hi hp => hd (i + 1) p (by omega) (by simpa using hp))]
            exact ht1 d (hd 0 o0 (by omega) rfl)
          · cases i with
            | zero =>
              simp at hp; subst hp
              rw [k5 d (fun i q hi hq hqd => by
                have := hnd 0 (i + 1) o0 q d rfl (by simpa using hq) hpd hqd; omega)]
              rw [m3 d (fun q hq hqd => by
                obtain ⟨k, hk⟩ := List.mem_iff_getElem?.1 hq
                have := hnd 0 (k + 1) o0 q d rfl (by simpa using hk) hpd hqd; omega)]
            | succ i => exact k6 i p d (by omega) (by simpa using hp) hpd
      cases hd : o0.dst with
      | none =>
        rw [hd] at h; simp only at h
        exact tail t h (fun _ _ => rfl) (fun d hh => by rw [hd] at hh; cases hh)
      | some d0 =>
        rw [hd] at h; simp only at h
        cases hb : Nat.ble d0 8000 with
        | false => rw [hb] at h; simp at h
        | true =>
          rw [hb] at h; simp only [cond_true] at h
          have hle := Nat.le_of_ble_eq_true hb
          refine tail _ h (fun d hh => ?_) (fun d hh => ?_)
          · rw [regOf_set (by omega)]
            have : d ≠ d0 := fun e => hh (by rw [hd, e])
            simp [setR, this]
          · rw [regOf_set (by omega)]
            rw [hd] at hh; injection hh with hh; subst hh
            simp [setR]

theorem mem_ready {md : Region.Mode} {ops : Array Oper} {L : Array Bool} {i : Nat} (h : i ∈ Region.ready md ops L) :
    ∃ o, ops[i]? = some o ∧ i < ops.size ∧ L.getD i true = false ∧ ∀ e ∈ o.after, Region.binds md e = true → L.getD e.on false = true := by
  simp only [Region.ready, List.mem_filter, List.mem_range, Bool.and_eq_true, Bool.not_eq_true'] at h
  obtain ⟨h1, h2, h3⟩ := h
  have ho : ops[i]? = some ops[i] := by simp [h1]
  rw [ho] at h3
  simp only [Option.map_some, Option.getD_some] at h3
  refine ⟨_, ho, h1, h2, fun e he hb => ?_⟩
  have := Array.all_eq_true'.1 h3 e he
  simp only [Bool.or_eq_true, Bool.not_eq_true'] at this
  rcases this with this | this
  · rw [hb] at this; cases this
  · exact this

theorem ready_nil {md : Region.Mode} {ops : Array Oper} {L : Array Bool} (hL : L.size = ops.size) (hed : ∀ (j : Nat) (o : Oper), ops[j]? = some o → ∀ e ∈ o.after, Region.binds md e = true → e.on < j)
    (h : Region.ready md ops L = []) : ∀ i, i < ops.size → L.getD i true = true := by
  intro i
  induction i using Nat.strongRecOn with
  | _ i ih =>
    intro hi
    cases hl : L.getD i true with
    | true => rfl
    | false =>
      exfalso
      have ho : ops[i]? = some ops[i] := by simp [hi]
      have : i ∈ Region.ready md ops L := by
        simp only [Region.ready, List.mem_filter, List.mem_range, Bool.and_eq_true, Bool.not_eq_true']
        refine ⟨hi, hl, ?_⟩
        rw [ho]; simp only [Option.map_some, Option.getD_some]
        rw [Array.all_eq_true']
        intro e he
        cases hb : Region.binds md e with
        | false => simp
        | true =>
          have hlt := hed i _ ho e he hb
          have := ih e.on hlt (by omega)
          have hlt2 : e.on < L.size := by omega
          simp [Array.getD, hlt2] at this
          simp [Array.getD, hlt2, this]
      rw [h] at this; simp at this

open Classical in
/-- The registers when the operations of 'L' are through. -/
noncomputable def mixR (ops : Array Oper) (R0 R1 : Nat → RV) (L : Array Bool) (t : Nat) : RV :=
  if ∃ i o, ops[i]? = some o ∧ o.dst = some t ∧ L.getD i false = true then R1 t else R0 t

theorem count_set {L : Array Bool} {i : Nat} (hi : i < L.size) (h : L.getD i true = false) : (L.setIfInBounds i true).toList.countP (· == false) + 1 = L.toList.countP (· == false) := by
  rw [Array.toList_setIfInBounds]
  have hi' : i < L.toList.length := by simpa using hi
  have hv : L.toList[i] = false := by simpa [Array.getD, hi] using h
  clear h hi
  generalize L.toList = l at *
  induction l generalizing i with
  | nil => simp at hi'
  | cons x l ih =>
    cases i with
    | zero => simp at hv; subst hv; simp
    | succ i =>
      simp only [List.set_cons_succ, List.countP_cons]
      have := ih (by simpa using hi') (by simpa using hv)
      omega

theorem all_listed {L : Array Bool} (h : L.toList.countP (· == false) = 0) : ∀ i, i < L.size → L.getD i true = true := by
  intro i hi
  have h1 := List.countP_eq_zero.1 h L[i] (by simp)
  cases e : L[i] with
  | true => simp [Array.getD, hi, e]
  | false => rw [e] at h1; simp at h1

theorem quiet_any {cf : Cfg} (hcf : CfOk P cf) {ops : Array Oper} {ov : Ov} {s : SSt} {t t' : T RV} {cs : List Bool} {es : List (RV × RV)} {m : Nat} {κ0 : Kap} {w0 : World} {φ0 : Phi}
    (hq : quietOk ops = true) (hg : guardsOk s.n ops = true) (hs : s.R = regOf t) (hrun : runQ cf ops ov s.O ops.toList t [] [] = some (t', cs, es)) (hc : ∀ c ∈ cs, c = true) (he : ∀ e ∈ es, RVle e.1 e.2) :
    (∀ (fuel : Nat) (L : Array Bool) (κ : Kap) (φ : Phi) (w : World) (a : Act), L.size = ops.size → L.toList.countP (· == false) = fuel →
      (∀ (j : Nat) (o : Oper), ops[j]? = some o → L.getD j false = true → ∀ e ∈ o.after, Region.binds .any e = true → L.getD e.on false = true) → FRel κ φ w { s with R := mixR ops s.R (regOf t') L } a →
      Fr κ0 w0 κ w → KpM m φ0 s.O φ s.O →
      wpAny P .any ops (fun e a' w' => e = .normal ∧ ∃ κ' φ', FRel κ' φ' w' { s with R := regOf t' } a' ∧ Fr κ0 w0 κ' w' ∧ KpM m φ0 s.O φ' s.O) fuel L a w) := by
  have hnd : ∀ (i j : Nat) (p q : Oper) (d : Nat), ops.toList[i]? = some p → ops.toList[j]? = some q → p.dst = some d → q.dst = some d → i = j := by
    intro i j p q d hi hj hp hqd
    rcases ((quietOk_spec hq (j := j) (o := q) (by simpa using hj)).2 i p d (by simpa using hi) hp).1 with h | h
    · exact h
    · exact absurd hqd h
  have hat := runQ_at ops.toList t t' [] cs [] es hrun hnd
  have hout := (runQ_mono ops.toList t t' [] cs [] es hrun).2.2
  have full : ∀ (L : Array Bool), L.size = ops.size → (∀ i, i < ops.size → L.getD i true = true) → mixR ops s.R (regOf t') L = regOf t' := by
    intro L hL hall
    funext d
    unfold mixR
    split
    · rfl
    · rename_i hne
      rw [hs, hout d (fun o ho hd => hne ?_)]
      obtain ⟨i, hi⟩ := List.mem_iff_getElem?.1 ho
      have hi' : ops[i]? = some o := by simpa using hi
      have hlt := (Array.getElem?_eq_some_iff.1 hi').1
      have hlt2 : i < L.size := by omega
      have := hall i hlt
      exact ⟨i, o, hi', hd, by simp [Array.getD, hlt2] at this ⊢; exact this⟩
  intro fuel
  induction fuel with
  | zero =>
    intro L κ φ w a hL hcnt hcl F hR hK
    have hall := all_listed hcnt
    rw [full L hL (fun i hi => hall i (by omega))] at F
    refine ⟨?_, rfl, κ, φ, F, hR, hK⟩
    cases hr : Region.ready .any ops L with
    | nil => rfl
    | cons i r =>
      obtain ⟨o, _, h1, h2, _⟩ := mem_ready (md := .any) (ops := ops) (L := L) (i := i) (by rw [hr]; simp)
      rw [hall i (by omega)] at h2; cases h2
  | succ fuel ih =>
    intro L κ φ w a hL hcnt hcl F hR hK
    refine ⟨fun hr => ?_, fun j hj => ?_⟩
    · have hall := ready_nil hL (fun j o ho => (quietOk_spec hq ho).1) hr
      rw [full L hL hall] at F
      exact ⟨rfl, κ, φ, F, hR, hK⟩
    · obtain ⟨o, ho, hjn, hlj, hedges⟩ := mem_ready hj
      obtain ⟨R, v, c, e, k1, k2, k3, k4, k5, k6⟩ := hat j o (by simpa using ho)
      obtain ⟨s1, s2⟩ := quietOk_spec hq ho
      -- what it looks at is as it was in the region's own order
      have same : ∀ d, d ∈ looks o ops → mixR ops s.R (regOf t') L d = R d := by
        intro d hd
        by_cases hw : ∃ (i : Nat) (p : Oper), ops[i]? = some p ∧ p.dst = some d
        · obtain ⟨i, p, hi, hp⟩ := hw
          rcases (s2 i p d hi hp).2 hd with ⟨hij, ed, he1, he2, he3⟩ | ⟨hij, ed, he1, he2, he3⟩
          · have hli : L.getD i false = true := by rw [← he2]; exact hedges ed he1 he3
            unfold mixR
            rw [if_pos ⟨i, p, hi, hp, hli⟩]
            exact (k6 i p d hij (by simpa using hi) hp).symm
          · have hljf : L.getD j false = false := by
              have : j < L.size := by omega
              simp [Array.getD, this] at hlj ⊢; exact hlj
            have only : ∀ (i' : Nat) (p' : Oper), ops[i']? = some p' → p'.dst = some d → i' = i := fun i' p' h1 h2 => hnd i' i p' p d (by simpa using h1) (by simpa using hi) h2 hp
            unfold mixR
            rw [if_neg (fun ⟨i', p', h1, h2, h3⟩ => by
              have e := only i' p' h1 h2
              subst e
              rw [h1] at hi; injection hi with hi; subst hi
              have := hcl i' p' h1 h3 ed he1 he3
              rw [he2, hljf] at this; cases this), hs]
            exact (k5 d (fun i' p' h0 h1 h2 => by have := only i' p' (by simpa using h1) h2; omega)).symm
        · unfold mixR
          rw [if_neg (fun ⟨i, p, hi, hp, _⟩ => hw ⟨i, p, hi, hp⟩), hs]
          exact (k5 d (fun i p _ hp hpd => hw ⟨i, p, by simpa using hp, hpd⟩)).symm
      have hqv : qVal cf ops ov (mixR ops s.R (regOf t') L) s.O o = some (v, c, e) := by
        rw [← k1]
        have h1 : guardOf (mixR ops s.R (regOf t') L) ops o = guardOf R ops o := by
          unfold guardOf
          cases hgu : o.guard with
          | none => rfl
          | some p =>
            obtain ⟨g, want⟩ := p
            simp only
            cases hog : ops[g]? with
            | none => rfl
            | some gg =>
              simp only
              cases hgd : gg.dst with
              | none => rfl
              | some d =>
                simp only
                rw [same d (by simp only [looks, List.mem_append]; right; rw [hgu]; simp only [hog, hgd]; simp)]
        have h2 : exOp cf (mixR ops s.R (regOf t') L) s.O 0 o = exOp cf R s.O 0 o := exOp_congr fun x hx => rvOf_congr fun d hd => by
          subst hd
          refine same d ?_
          simp only [looks, List.mem_append, List.mem_filterMap]
          left
          exact ⟨.tmp d, by simpa using hx, rfl⟩
        unfold qVal
        rw [h1, h2]
      refine qVal_wp hcf F hqv (fun x hx => hc x (k2 x hx)) (fun x hx => he x (k3 x hx)) ho (guardsOk_spec hg) (fun a' w' κ' φ' g1 g2 g3 => ?_)
      have hset : setD (mixR ops s.R (regOf t') L) o.dst v = mixR ops s.R (regOf t') (L.setIfInBounds j true) := by
        funext d
        have hget : ∀ i, (L.setIfInBounds j true).getD i false = if i = j then true else L.getD i false := by
          intro i
          simp only [Array.getD_eq_getD_getElem?, Array.getElem?_setIfInBounds]
          by_cases e : i = j
          · subst e; have : i < L.size := by omega
            simp [this]
          · have : ¬ j = i := fun h => e h.symm
            simp [e, this]
        cases hd : o.dst with
        | none =>
          simp only [setD]
          unfold mixR
          congr 1
          apply propext
          constructor
          · rintro ⟨i, p, h1, h2, h3⟩
            exact ⟨i, p, h1, h2, by rw [hget]; split; rfl; exact h3⟩
          · rintro ⟨i, p, h1, h2, h3⟩
            rw [hget] at h3
            by_cases e : i = j
            · subst e; rw [ho] at h1; injection h1 with h1; subst h1; rw [hd] at h2; cases h2
            · rw [if_neg e] at h3; exact ⟨i, p, h1, h2, h3⟩
        | some d0 =>
          simp only [setD, setR]
          by_cases e0 : d = d0
          · subst e0
            rw [if_pos rfl]
            unfold mixR
            rw [if_pos ⟨j, o, ho, hd, by rw [hget]; simp⟩, k4 d hd]
          · rw [if_neg e0]
            unfold mixR
            congr 1
            apply propext
            constructor
            · rintro ⟨i, p, h1, h2, h3⟩
              exact ⟨i, p, h1, h2, by rw [hget]; split; rfl; exact h3⟩
            · rintro ⟨i, p, h1, h2, h3⟩
              rw [hget] at h3
              by_cases e : i = j
              · subst e; rw [ho] at h1; injection h1 with h1; subst h1; rw [hd] at h2; injection h2 with h2; exact absurd h2.symm e0
              · rw [if_neg e] at h3; exact ⟨i, p, h1, h2, h3⟩
      have g1' : FRel κ' φ' w' { s with R := mixR ops s.R (regOf t') (L.setIfInBounds j true) } a' := by rw [← hset]; exact g1
      have hc2 := count_set (L := L) (i := j) (by omega) hlj
      have hget : ∀ i, (L.setIfInBounds j true).getD i false = if i = j then true else L.getD i false := by
        intro i
        simp only [Array.getD_eq_getD_getElem?, Array.getElem?_setIfInBounds]
        by_cases e : i = j
        · subst e; have : i < L.size := by omega
          simp [this]
        · have : ¬ j = i := fun h => e h.symm
          simp [e, this]
      have hcl' : ∀ (j' : Nat) (o' : Oper), ops[j']? = some o' → (L.setIfInBounds j true).getD j' false = true → ∀ e ∈ o'.after, Region.binds .any e = true → (L.setIfInBounds j true).getD e.on false = true := by
        intro j' o' ho' hl' e he' hb'
        rw [hget] at hl' ⊢
        split
        · rfl
        · by_cases ej : j' = j
          · subst ej; rw [ho] at ho'; injection ho' with ho'; subst ho'; exact hedges e he' hb'
          · rw [if_neg ej] at hl'; exact hcl j' o' ho' hl' e he' hb'
      exact ih (L.setIfInBounds j true) κ' φ' w' a' (by simpa using hL) (by omega) hcl' g1' (hR.trans g2) (hK.trans (g3.m m))

end Go.Am

/-
  The abstract machine: an operation gives the same on any table that agrees where it looks.
-/
namespace Go.Am
set_option linter.unusedSectionVars false
variable {P : Program} [Gl]

def Le (O O' : Tab) : Prop := ∀ i p, O i = some p → O' i = some p

theorem Le.updO {O O' : Tab} (h : Le O O') (u : List (Nat × PObj)) : Le (Am.updO O u) (Am.updO O' u) := by
  induction u generalizing O O' with
  | nil => exact h
  | cons x r ih =>
    refine ih (fun i p hi => ?_)
    have hi' : setT O x.1 (some x.2) i = some p := hi
    show setT O' x.1 (some x.2) i = some p
    by_cases e : i = x.1
    · subst e; rw [setT_same] at hi' ⊢; exact hi'
    · rw [setT_ne _ _ e] at hi' ⊢; exact h i p hi'

theorem tkCell_mono {O O' : Tab} (h : Le O O') {v : RV} {r : DV × List (Nat × PObj) × List Bool} (hx : tkCell O v = some r) : tkCell O' v = some r := by
  cases v with
  | own i sz =>
    cases ho : O i with
    | none => simp [tkCell, ho] at hx
    | some p => simp only [tkCell, ho] at hx; simp only [tkCell, h i p ho]; exact hx
  | sub i sz off len =>
    cases ho : O i with
    | none => simp [tkCell, ho] at hx
    | some p => simp only [tkCell, ho] at hx; simp only [tkCell, h i p ho]; exact hx
  | _ => exact hx

theorem tkCells_mono {O O' : Tab} (h : Le O O') : ∀ {l : List RV} {r : List DV × List (Nat × PObj) × List Bool}, tkCells O l = some r → tkCells O' l = some r
  | [], r, hx => hx
  | v :: l, r, hx => by
    simp only [tkCells] at hx ⊢
    cases h1 : tkCell O v with
    | none => rw [h1] at hx; simp at hx
    | some p =>
      cases h2 : tkCells O l with
      | none => rw [h1, h2] at hx; simp at hx
      | some q =>
        rw [h1, h2] at hx
        rw [tkCell_mono h h1, tkCells_mono h h2]; exact hx

theorem tkDV_mono {O O' : Tab} (h : Le O O') {v : RV} {r : DV × List (Nat × PObj) × List Bool} (hx : tkDV O v = some r) : tkDV O' v = some r := by
  cases v with
  | agg cs =>
    simp only [tkDV] at hx ⊢
    cases h2 : tkCells O cs with
    | none => rw [h2] at hx; simp at hx
    | some q => rw [h2] at hx; rw [tkCells_mono h h2]; exact hx
  | _ => simp only [tkDV] at hx ⊢; exact tkCell_mono h hx

theorem tkAll_mono {O O' : Tab} (h : Le O O') : ∀ {l : List (Nat × RV)} {r : List (Nat × DV) × List (Nat × PObj) × List Bool}, tkAll O l = some r → tkAll O' l = some r
  | [], r, hx => hx
  | (i, v) :: l, r, hx => by
    simp only [tkAll] at hx ⊢
    cases h1 : tkDV O v with
    | none => rw [h1] at hx; simp at hx
    | some p =>
      cases h2 : tkAll O l with
      | none => rw [h1, h2] at hx; simp at hx
      | some q =>
        rw [h1, h2] at hx
        rw [tkDV_mono h h1, tkAll_mono h h2]; exact hx

theorem prepCell_mono {O O' : Tab} (h : Le O O') {v : RV} {r : RV × List (Nat × PObj) × List Bool} (hx : prepCell O v = some r) : prepCell O' v = some r := by
  unfold prepCell at hx ⊢
  cases ho : isOwn v with
  | false => rw [ho] at hx; exact hx
  | true =>
    rw [ho] at hx; simp only [cond_true] at hx ⊢
    cases h1 : tkCell O v with
    | none => rw [h1] at hx; simp at hx
    | some p => rw [h1] at hx; rw [tkCell_mono h h1]; exact hx
theorem prepCells_mono {O O' : Tab} (h : Le O O') : ∀ {l : List RV} {r : List RV × List (Nat × PObj) × List Bool}, prepCells O l = some r → prepCells O' l = some r
  | [], r, hx => hx
  | v :: l, r, hx => by
    simp only [prepCells] at hx ⊢
    cases h1 : prepCell O v with
    | none => rw [h1] at hx; simp at hx
    | some p =>
      cases h2 : prepCells O l with
      | none => rw [h1, h2] at hx; simp at hx
      | some q =>
        rw [h1, h2] at hx
        rw [prepCell_mono h h1, prepCells_mono h h2]; exact hx
theorem prepRV_mono {O O' : Tab} (h : Le O O') {v : RV} {r : RV × List (Nat × PObj) × List Bool} (hx : prepRV O v = some r) : prepRV O' v = some r := by
  cases v with
  | agg cs =>
    simp only [prepRV] at hx ⊢
    cases h2 : prepCells O cs with
    | none => rw [h2] at hx; simp at hx
    | some q => rw [h2] at hx; rw [prepCells_mono h h2]; exact hx
  | _ => simp only [prepRV] at hx ⊢; exact prepCell_mono h hx
theorem prepAll_mono {O O' : Tab} (h : Le O O') : ∀ {l : List RV} {r : List RV × List (Nat × PObj) × List Bool}, prepAll O l = some r → prepAll O' l = some r
  | [], r, hx => hx
  | v :: l, r, hx => by
    simp only [prepAll] at hx ⊢
    cases h1 : prepRV O v with
    | none => rw [h1] at hx; simp at hx
    | some p =>
      cases h2 : prepAll O l with
      | none => rw [h1, h2] at hx; simp at hx
      | some q =>
        rw [h1, h2] at hx
        rw [prepRV_mono h h1, prepAll_mono h h2]; exact hx

theorem elsOf_mono {O O' : Tab} (h : Le O O') {v : RV} {r : Nat × List DV × List Bool} (hx : elsOf O v = some r) : elsOf O' v = some r := by
  cases v with
  | own i sz =>
    cases ho : O i with
    | none => simp [elsOf, ho] at hx
    | some p => simp only [elsOf, ho] at hx; simp only [elsOf, h i p ho]; exact hx
  | sub i sz off len =>
    cases ho : O i with
    | none => simp [elsOf, ho] at hx
    | some p => simp only [elsOf, ho] at hx; simp only [elsOf, h i p ho]; exact hx
  | d x => cases x <;> exact hx
  | _ => exact hx

theorem srcEls_mono {O O' : Tab} (h : Le O O') {v : RV} {r : Nat × List DV × List Bool} (hx : srcEls O v = some r) : srcEls O' v = some r := by
  cases v with
  | d x => cases x with
    | str s => exact hx
    | _ => simp only [srcEls] at hx ⊢; exact elsOf_mono h hx
  | _ => simp only [srcEls] at hx ⊢; exact elsOf_mono h hx

theorem exLoad_mono {E : Env} {O O' : Tab} (h : Le O O') {t : Nat} {v : RV} {r : Res} (hx : exLoad E O t v = some r) : exLoad E O' t v = some r := by
  unfold exLoad at hx ⊢
  cases hz : E.size t with
  | none => rw [hz] at hx; simp at hx
  | some z =>
    rw [hz] at hx; simp only at hx ⊢
    cases v with
    | ptr i off =>
      simp only at hx ⊢
      cases ho : O i with
      | none => rw [ho] at hx; simp at hx
      | some p => rw [ho] at hx; rw [h i p ho]; exact hx
    | eptr i sz idx off =>
      simp only at hx ⊢
      cases ho : O i with
      | none => rw [ho] at hx; simp at hx
      | some p => rw [ho] at hx; rw [h i p ho]; exact hx
    | _ => exact hx

theorem exStore_mono {E : Env} {O O' : Tab} (h : Le O O') {t : Nat} {a v : RV} {r : Res} (hx : exStore E O t a v = some r) : exStore E O' t a v = some r := by
  unfold exStore at hx ⊢
  cases hz : E.size t with
  | none => rw [hz] at hx; simp at hx
  | some z =>
    rw [hz] at hx; simp only at hx ⊢
    cases a with
    | ptr i off =>
      simp only at hx ⊢
      cases ho : O i with
      | none => rw [ho] at hx; simp at hx
      | some p => rw [ho] at hx; rw [h i p ho]; exact hx
    | eptr i sz idx off =>
      simp only at hx ⊢
      cases ho : O i with
      | none => rw [ho] at hx; simp at hx
      | some p =>
        rw [ho] at hx; rw [h i p ho]
        cases p with
        | arr ty sz' els =>
          simp only at hx ⊢
          cases hb : Nat.beq sz' sz with
          | false => rw [hb] at hx; simp at hx
          | true =>
            rw [hb] at hx; simp only [cond_true] at hx ⊢
            cases h1 : tkDV O v with
            | none => rw [h1] at hx; simp at hx
            | some q => rw [h1] at hx; rw [tkDV_mono h h1]; exact hx
        | _ => exact hx
    | _ => exact hx

theorem exLen_mono {E : Env} {O O' : Tab} (h : Le O O') {t : Nat} {v : RV} {r : Res} (hx : exLen E O t v = some r) : exLen E O' t v = some r := by
  unfold exLen at hx ⊢
  split at hx
  · exact hx
  · exact hx
  · rename_i i _ hu
    cases ho : O i with
    | none => rw [ho] at hx; simp at hx
    | some p => rw [ho] at hx; rw [h i p ho]; exact hx
  · exact hx
  · exact hx
  · exact hx
  · rename_i i hu
    cases ho : O i with
    | none => rw [ho] at hx; simp at hx
    | some p => rw [ho] at hx; rw [h i p ho]; exact hx
  · cases hx

theorem exIndexAddr_mono {E : Env} {O O' : Tab} (h : Le O O') {t : Nat} {v j : RV} {r : Res} (hx : exIndexAddr E O t v j = some r) : exIndexAddr E O' t v j = some r := by
  unfold exIndexAddr at hx ⊢
  split at hx
  · split at hx
    · exact hx
    · rename_i k sz hu
      cases ho : O k with
      | none => rw [ho] at hx; simp at hx
      | some p => rw [ho] at hx; rw [h k p ho]; exact hx
    · exact hx
    · rename_i k off hu
      cases ho : O k with
      | none => rw [ho] at hx; simp at hx
      | some p => rw [ho] at hx; rw [h k p ho]; exact hx
    · cases hx
  · cases hx

theorem exSlice_mono {E : Env} {O O' : Tab} (h : Le O O') {t : Nat} {v : RV} {lo hi mx : Option RV} {r : Res} (hx : exSlice E O t v lo hi mx = some r) : exSlice E O' t v lo hi mx = some r := by
  unfold exSlice at hx ⊢
  split at hx
  · split at hx
    · exact hx
    · exact hx
    · rename_i i sz hu
      cases ho : O i with
      | none => rw [ho] at hx; simp at hx
      | some p => rw [ho] at hx; simp only [h i p ho]; exact hx
    · exact hx
    · rename_i i off hu
      cases ho : O i with
      | none => rw [ho] at hx; simp at hx
      | some p => rw [ho] at hx; simp only [h i p ho]; exact hx
    · cases hx
  · exact hx
  · cases hx

theorem exConv_mono {E : Env} {O O' : Tab} (h : Le O O') {sl : Nat} (hs : O' sl = O sl) {s d : Nat} {v : RV} {r : Res} (hx : exConv E O sl s d v = some r) : exConv E O' sl s d v = some r := by
  unfold exConv at hx ⊢
  rw [hs]
  split at hx
  · exact hx
  · exact hx
  · exact hx
  · rename_i v _ _ _ e hu1 hu2 hne
    cases hb : isU8 (E.und e) with
    | false => rw [hb] at hx; simp at hx
    | true =>
      rw [hb] at hx; simp only [cond_true] at hx ⊢
      cases h1 : elsOf O v with
      | none => rw [h1] at hx; simp at hx
      | some q => rw [h1] at hx; rw [elsOf_mono h h1]; exact hx
  · cases hx

theorem exBuildSlice_mono {E : Env} {O O' : Tab} (h : Le O O') {sl : Nat} (hs : O' sl = O sl) {t n : Nat} {parts : List (Nat × RV)} {r : Res} (hx : exBuildSlice E O sl t n parts = some r) : exBuildSlice E O' sl t n parts = some r := by
  unfold exBuildSlice at hx ⊢
  rw [hs]
  split at hx
  · rename_i e h1 h2
    split at hx
    · rename_i sz z h3 h4
      cases h5 : tkAll O parts with
      | none => rw [h5] at hx; simp at hx
      | some q => rw [h5] at hx; rw [tkAll_mono h h5]; exact hx
    · cases hx
  · cases hx

theorem exAppend_mono {E : Env} {O O' : Tab} (h : Le O O') {sl : Nat} (hs : O' sl = O sl) (hs1 : O' (sl + 1) = O (sl + 1)) {t : Nat} {s x : RV} {r : Res} (hx : exAppend E O sl t s x = some r) : exAppend E O' sl t s x = some r := by
  have hsl : ∀ i, O' (bif Nat.beq i sl then sl + 1 else sl) = O (bif Nat.beq i sl then sl + 1 else sl) := fun i => by cases Nat.beq i sl <;> simp [hs, hs1]
  unfold exAppend at hx ⊢
  split at hx
  · rename_i e hu
    split at hx
    · rename_i z by_ sx xs cx h1 h2 h3
      rw [h1, h2, srcEls_mono h h3]
      simp only
      cases hb : ((Nat.beq sx z || xs.isEmpty) && Nat.ble 1 z && Nat.ble 1 by_ && zeroOk E e z) with
      | false => rw [hb] at hx; simp at hx
      | true =>
        rw [hb] at hx; simp only [cond_true] at hx ⊢
        split at hx
        · simp only [hs]; exact hx
        · rename_i i sz
          (try simp only)
          cases hb2 : Nat.beq sz z with
          | false => rw [hb2] at hx; simp at hx
          | true =>
            rw [hb2] at hx; simp only [cond_true] at hx ⊢
            cases ho : O i with
            | none => rw [ho] at hx; simp at hx
            | some p => rw [ho] at hx; rw [h i p ho]; simp only [hsl]; exact hx
        · rename_i i sz off len
          (try simp only)
          cases hb2 : (Nat.beq sz z && Nat.beq off 0) with
          | false => rw [hb2] at hx; simp at hx
          | true =>
            rw [hb2] at hx; simp only [cond_true] at hx ⊢
            cases ho : O i with
            | none => rw [ho] at hx; simp at hx
            | some p => rw [ho] at hx; rw [h i p ho]; simp only [hsl]; exact hx
        · cases hx
    · cases hx
  · cases hx

theorem exMakeFunc_mono {O O' : Tab} (h : Le O O') {fn : Fn} {fs cs : List RV} {r : Res} (hx : exMakeFunc O fn fs cs = some r) : exMakeFunc O' fn fs cs = some r := by
  unfold exMakeFunc at hx ⊢
  cases h1 : prepAll O (fs ++ cs) with
  | none => rw [h1] at hx; simp at hx
  | some q => rw [h1] at hx; rw [prepAll_mono h h1]; exact hx


theorem reach_sub (O : Tab) : ∀ (n : Nat) (todo done : List Nat) (i : Nat), i ∈ done → i ∈ reach O n todo done
  | 0, _, done, i, h => by simp [reach, h]
  | n + 1, [], done, i, h => by simp [reach, h]
  | n + 1, x :: todo, done, i, h => by
    simp only [reach]
    cases (done.any fun j => Nat.beq j x) with
    | true => simp only [cond_true]; exact reach_sub O n todo done i h
    | false => simp only [cond_false]; exact reach_sub O n _ _ i (by simp [h])

theorem reach_mono {O O' : Tab} (h : Le O O') : ∀ (n : Nat) (todo done : List Nat), (∀ i ∈ reach O n todo done, O i ≠ none) → reach O' n todo done = reach O n todo done
  | 0, _, _, _ => by simp [reach]
  | n + 1, [], done, _ => by simp [reach]
  | n + 1, x :: todo, done, hr => by
    simp only [reach] at hr ⊢
    cases hb : (done.any fun j => Nat.beq j x) with
    | true =>
      rw [hb] at hr; simp only [cond_true] at hr ⊢
      exact reach_mono h n todo done hr
    | false =>
      rw [hb] at hr; simp only [cond_false] at hr ⊢
      have hx := hr x (reach_sub O n _ _ x (by simp))
      have e : O' x = O x := by
        cases ho : O x with
        | none => exact absurd ho hx
        | some p => exact h x p ho
      rw [e]
      exact reach_mono h n _ _ hr

theorem mapO_congr {α β : Type} {f g : α → Option β} : ∀ (l : List α), (∀ x ∈ l, f x = g x) → mapO f l = mapO g l
  | [], _ => rfl
  | x :: l, h => by simp only [mapO]; rw [h x (by simp), mapO_congr l (fun y hy => h y (by simp [hy]))]

theorem mapO_some {α β : Type} {f : α → Option β} : ∀ {l : List α} {r : List β}, mapO f l = some r → ∀ x ∈ l, ∃ y, f x = some y
  | [], _, _, x, hx => by simp at hx
  | a :: l, r, h, x, hx => by
    simp only [mapO] at h
    cases h1 : f a with
    | none => rw [h1] at h; simp at h
    | some y =>
      cases h2 : mapO f l with
      | none => rw [h1, h2] at h; simp at h
      | some q =>
        rcases List.mem_cons.1 hx with rfl | hx
        · exact ⟨y, h1⟩
        · exact mapO_some h2 x hx

theorem updO_agree {O O' : Tab} : ∀ (u : List (Nat × PObj)) (i : Nat), O' i = O i → updO O' u i = updO O u i := by
  intro u
  induction u generalizing O O' with
  | nil => intro i h; exact h
  | cons x r ih =>
    intro i h
    refine ih i ?_
    show setT O' x.1 (some x.2) i = setT O x.1 (some x.2) i
    by_cases e : i = x.1
    · subst e; rw [setT_same, setT_same]
    · rw [setT_ne _ _ e, setT_ne _ _ e]; exact h

theorem zipU_keys : ∀ (qs : List Nat) (ps : List PObj), qs.length ≤ ps.length → ∀ i ∈ qs, ∃ p, (i, p) ∈ zipU qs ps
  | [], _, _, i, h => by simp at h
  | q :: qs, [], hl, _, _ => by simp at hl
  | q :: qs, p :: ps, hl, i, h => by
    rcases List.mem_cons.1 h with rfl | h
    · exact ⟨p, by simp [zipU]⟩
    · obtain ⟨p', hp⟩ := zipU_keys qs ps (by simpa using hl) i h
      exact ⟨p', by simp [zipU, hp]⟩

theorem exCallF_mono {K : Kon} {byref : Bool} {O O' : Tab} (h : Le O O') {sl f : Nat} {args : List RV} {r : Res} (hx : exCallF K byref O sl f args = some r) (hk : ∀ p ∈ r.upd, O' p.1 = O p.1) : exCallF K byref O' sl f args = some r := by
  unfold exCallF at hx ⊢
  have hpre : ∀ q, (bif byref then some (args, [], []) else prepAll O args) = some q → (bif byref then some (args, [], []) else prepAll O' args) = some q := by
    intro q hq
    cases byref with
    | true => exact hq
    | false => exact prepAll_mono h hq
  cases h1 : (bif byref then some (args, [], []) else prepAll O args) with
  | none => rw [h1] at hx; simp at hx
  | some q =>
    rw [hpre q h1]
    rw [h1] at hx
    obtain ⟨args1, u, c⟩ := q
    simp only at hx ⊢
    generalize hps : reach (updO O u) 400 (args1.flatMap (RV.refs 6)) [] = ps at hx
    split at hx
    · rename_i args2 objs h2 h3
      · have hu := h.updO u
        have hsome : ∀ i ∈ ps, updO O u i ≠ none := fun i hi hn => by
          obtain ⟨y, hy⟩ := mapO_some h3 i hi
          rw [hn] at hy; simp at hy
        have hps' : reach (updO O' u) 400 (args1.flatMap (RV.refs 6)) [] = ps := by
          rw [← hps]; exact reach_mono hu _ _ _ (by rw [hps]; exact hsome)
        have hag : ∀ i ∈ ps, updO O' u i = updO O u i := fun i hi => by
          cases ho : updO O u i with
          | none => exact absurd ho (hsome i hi)
          | some p => exact hu i p ho
        rw [hps', h2, (mapO_congr ps (fun i hi => by simp only [hag i hi])).trans h3]
        simp only
        cases h4 : K f args2 objs with
        | none => rw [h4] at hx; simp at hx
        | some q4 =>
          obtain ⟨r4, objs', c2⟩ := q4
          rw [h4] at hx; simp only at hx ⊢
          generalize hnw : news sl (objs'.length - ps.length) = nw at hx
          cases h5 : (nodupB ps && nodupB (ps ++ nw) && Nat.ble ps.length objs'.length && nw.all (fun i => (updO O u i).isNone)) with
          | false => rw [h5] at hx; simp at hx
          | true =>
            rw [h5] at hx; simp only [cond_true] at hx
            cases h6 : mapO (PObj.ren (fun j => (ps ++ nw)[j]?)) objs' with
            | none => rw [h6] at hx; simp at hx
            | some objs'' =>
              cases h7 : RV.ren (fun j => (ps ++ nw)[j]?) 6 r4 with
              | none => rw [h6, h7] at hx; simp at hx
              | some r'' =>
                rw [h6, h7] at hx; simp only [Option.some.injEq] at hx
                subst hx
                simp only [Bool.and_eq_true] at h5
                have hlen : (ps ++ nw).length ≤ objs''.length := by
                  have a1 := (mapO_spec _ objs' objs'' h6).1
                  have a2 := Nat.le_of_ble_eq_true h5.1.2
                  have a3 : nw.length = objs'.length - ps.length := by rw [← hnw]; simp [news]
                  simp only [List.length_append]; omega
                have hnone : nw.all (fun i => (updO O' u i).isNone) = true := by
                  rw [List.all_eq_true]
                  intro i hi
                  obtain ⟨p, hp⟩ := zipU_keys (ps ++ nw) objs'' hlen i (by simp [hi])
                  rw [updO_agree u i (hk (i, p) (by simp [hp]))]
                  exact List.all_eq_true.1 h5.2 i hi
                rw [h5.1.1.1, h5.1.1.2, h5.1.2, hnone]
                rfl
    · cases hx

theorem exCallD_mono {diff : Bool} {K : Kon} {byref : Bool} {O O' : Tab} (h : Le O O') {sl f : Nat} {args : List RV} {r : Res} (hx : exCallD diff K byref O sl f args = some r) (hk : ∀ p ∈ r.upd, O' p.1 = O p.1) : exCallD diff K byref O' sl f args = some r := by
  unfold exCallD at hx ⊢
  cases diff with
  | false => exact exCallF_mono h hx hk
  | true =>
    simp only at hx ⊢
    cases hf : exCallF K byref O sl f args with
    | none => rw [hf] at hx; simp at hx
    | some r0 =>
      rw [hf] at hx; simp only at hx
      cases hn : nodupB (r0.upd.map (·.1)) with
      | false => rw [hn] at hx; simp at hx
      | true =>
        rw [hn] at hx; simp only [cond_true, Option.some.injEq] at hx; subst hx
        have hall : ∀ p ∈ r0.upd, O' p.1 = O p.1 := fun p hp => by
          cases e : sameO (O p.1) p.2 with
          | false => exact hk p (List.mem_filter.2 ⟨hp, by simp [e]⟩)
          | true =>
            unfold sameO at e
            split at e
            · rename_i q hq; rw [h _ _ hq, hq]
            · cases e
        rw [exCallF_mono h hf hall]
        simp only [hn, cond_true, Option.some.injEq]
        have : dropSame O' r0.upd = dropSame O r0.upd := List.filter_congr fun p hp => by rw [hall p hp]
        rw [this]

theorem isNilSl_mono {O O' : Tab} (h : Le O O') {x : RV} {b : Bool} (hx : isNilSl O x = some b) : isNilSl O' x = some b := by
  unfold isNilSl at hx ⊢
  split at hx
  · exact hx
  · rename_i i sz
    cases hO : O i with
    | none => rw [hO] at hx; simp at hx
    | some p => rw [hO] at hx; rw [h _ _ hO]; exact hx
  · exact hx
  · cases hx

theorem exBinO_mono {E : Env} {O O' : Tab} (h : Le O O') {op : BinOp} {t : Nat} {x y : RV} {r : Res} (hx : exBinO E O op t x y = some r) : exBinO E O' op t x y = some r := by
  unfold exBinO at hx ⊢
  split at hx
  · unfold exNilCmp at hx ⊢
    split at hx
    · rename_i e b hu hb
      rw [hu, isNilSl_mono h hb]; exact hx
    · cases hx
  · exact hx

theorem rowsOf_mono {O O' : Tab} (h : Le O O') {x : RV} {es : List (DV × DV)} (hx : rowsOf O x = some es) : rowsOf O' x = some es := by
  unfold rowsOf at hx ⊢
  split at hx
  · exact hx
  · rename_i i
    cases hO : O i with
    | none => rw [hO] at hx; simp at hx
    | some p => rw [hO] at hx; rw [h i p hO]; exact hx
  · cases hx

theorem exLookup_mono {E : Env} {O O' : Tab} (h : Le O O') {t : Nat} {x k : RV} {ok : Bool} {r : Res} (hx : exLookup E O t x k ok = some r) : exLookup E O' t x k ok = some r := by
  unfold exLookup at hx ⊢
  split at hx
  · rename_i kt et es kd hu hr
    rw [hu, rowsOf_mono h hr]; exact hx
  · cases hx

theorem exMapUpdate_mono {E : Env} {O O' : Tab} (h : Le O O') {t : Nat} {m k y : RV} {r : Res} (hx : exMapUpdate E O t m k y = some r) : exMapUpdate E O' t m k y = some r := by
  unfold exMapUpdate at hx ⊢
  split at hx
  · rename_i kt et i kd hu
    split at hx
    · rename_i yd u c es h1 h2
      rw [tkDV_mono h h1, h _ _ h2]; exact hx
    · cases hx
  · cases hx

theorem exDelete_mono {E : Env} {O O' : Tab} (h : Le O O') {t : Nat} {m k : RV} {r : Res} (hx : exDelete E O t m k = some r) : exDelete E O' t m k = some r := by
  unfold exDelete at hx ⊢
  split at hx
  · rename_i kt et i kd hu
    split at hx
    · rename_i es h1
      rw [h _ _ h1]; exact hx
    · cases hx
  · cases hx

theorem clearAt_mono {E : Env} {O O' : Tab} (h : Le O O') {e i sz off len : Nat} {r : Res} (hx : clearAt E O e i sz off len = some r) : clearAt E O' e i sz off len = some r := by
  unfold clearAt at hx ⊢
  split at hx
  · rename_i sz' els z zz h1 h2 h3
    rw [h _ _ h1, h2, h3]; exact hx
  · cases hx

theorem exClear_mono {E : Env} {O O' : Tab} (h : Le O O') {t : Nat} {x : RV} {r : Res} (hx : exClear E O t x = some r) : exClear E O' t x = some r := by
  unfold exClear at hx ⊢
  split at hx
  · rename_i e i sz hu
    split at hx
    · rename_i sz' els h1
      rw [h _ _ h1]; exact clearAt_mono h hx
    · cases hx
  · rename_i e i sz off len hu
    exact clearAt_mono h hx
  · cases hx

theorem exOp0_mono {cf : Cfg} {R : Nat → RV} {O O' : Tab} (h : Le O O') {sl : Nat} (hs : O' sl = O sl) (hs1 : O' (sl + 1) = O (sl + 1)) {o : Oper} {res : Res} {un : Bool} (hx : exOp0 cf R O sl o = some (res, un))
    (hk : ∀ p ∈ res.upd, O' p.1 = O p.1) : exOp0 cf R O' sl o = some (res, un) := by
  unfold exOp0 at hx ⊢
  have val : ∀ {r r' : Option Res}, (match r with | some r => some (r, false) | none => none) = some (res, un) → (r = some res → r' = some res) → (match r' with | some r => some (r, false) | none => none) = some (res, un) := by
    intro r r' h1 h2
    cases r with
    | none => simp at h1
    | some r => simp at h1; obtain ⟨rfl, rfl⟩ := h1; rw [h2 rfl]
  have valD : ∀ {r : Option Res}, (match r with | some r => some (r, false) | none => none) = some (res, un) → r = some res := by
    intro r h1
    cases r with
    | none => simp at h1
    | some r => simp at h1; rw [h1.1]
  cases ho : o.op <;> rw [ho] at hx <;> (try simp only at hx ⊢) <;> try exact hx
  case alloc t =>
    cases hz : cf.E.zero t with
    | none => rw [hz] at hx; simp at hx
    | some z =>
      rw [hz] at hx; simp only at hx ⊢
      refine val hx fun e => ?_
      unfold exAlloc at e ⊢; rw [hs]; exact e
  case box t x => refine val hx fun e => ?_; unfold exAlloc at e ⊢; rw [hs]; exact e
  case buildSlice t n parts => exact val hx fun e => exBuildSlice_mono h hs e
  case load t x => exact val hx fun e => exLoad_mono h e
  case store t x y =>
    cases h1 : exStore cf.E O t (rvOf R x) (rvOf R y) with
    | none => rw [h1] at hx; simp at hx
    | some r => rw [h1] at hx; rw [exStore_mono h h1]; exact hx
  case binOp op t x y yt => exact val hx fun e => exBinO_mono h e
  case convert s d x => exact val hx fun e => exConv_mono h hs e
  case slice t x lo hi mx => exact val hx fun e => exSlice_mono h e
  case indexAddr t x i => exact val hx fun e => exIndexAddr_mono h e
  case makeFunc fn first caps => exact val hx fun e => exMakeFunc_mono h e
  case makeSlice t l c => refine val hx fun e => ?_; unfold exMakeSlice at e ⊢; rw [hs]; exact e
  case makeMap t hh => refine val hx fun e => ?_; unfold exMakeMap at e ⊢; rw [hs]; exact e
  case lookup t x i ok => exact val hx fun e => exLookup_mono h e
  case mapUpdate t m k y =>
    cases h1 : exMapUpdate cf.E O t (rvOf R m) (rvOf R k) (rvOf R y) with
    | none => rw [h1] at hx; simp at hx
    | some r => rw [h1] at hx; rw [exMapUpdate_mono h h1]; exact hx
  case call c =>
    cases hc : c.callee with
    | builtin b =>
      rw [hc] at hx; simp only at hx ⊢
      refine val hx fun e => ?_
      unfold exBuiltin at e ⊢
      split at e
      · exact exLen_mono h e
      · rename_i t t2 x y _ _
        cases hn : notIntB (cf.E.und t2) with
        | false => rw [hn] at e; simp at e
        | true => rw [hn] at e; simp only [cond_true] at e ⊢; exact exAppend_mono h hs hs1 e
      · exact e
      · exact e
      · exact exDelete_mono h e
      · exact exClear_mono h e
      · cases e
    | value f =>
      rw [hc] at hx; simp only at hx ⊢
      split at hx
      · rename_i g first caps hg
        cases hok : cf.callOk g with
        | false => rw [hok] at hx; simp at hx
        | true =>
          rw [hok] at hx; simp only [cond_true] at hx ⊢
          exact val hx fun e => exCallD_mono h e hk
      · cases hx
    | _ => rw [hc] at hx; simp at hx

theorem cellsAt_mono {O O' : Tab} (h : Le O O') {i : Nat} {cs : List RV} (hx : cellsAt O i = some cs) : cellsAt O' i = some cs := by
  unfold cellsAt at hx ⊢
  split at hx
  · rename_i t c he; rw [h _ _ he]; exact hx
  · rename_i t c he; rw [h _ _ he]; exact hx
  · cases hx
theorem cellsAt_obj {O O' : Tab} (h : Le O O') {i : Nat} {cs : List RV} (hx : cellsAt O i = some cs) : O' i = O i := by
  unfold cellsAt at hx
  split at hx
  · rename_i t c he; rw [h _ _ he, he]
  · rename_i t c he; rw [h _ _ he, he]
  · cases hx
theorem setC_mono {O O' : Tab} (h : Le O O') {i : Nat} {cs : List RV} (hx : cellsAt O i = some cs) (l : List RV) : setC O' i l = setC O i l := by
  unfold setC; rw [cellsAt_obj h hx]

theorem srcCells_mono {O O' : Tab} (h : Le O O') {z : Nat} {x : RV} {r : Nat × List RV} (hx : srcCells O z x = some r) : srcCells O' z x = some r := by
  unfold srcCells at hx ⊢
  split at hx
  · exact hx
  · exact hx
  · rename_i i sz o len cap
    cases hc : cellsAt O i with
    | none => rw [hc] at hx; simp at hx
    | some cs => rw [hc] at hx; simp only [cellsAt_mono h hc]; exact hx
  · cases hx

theorem exLoadR_mono {E : Env} {O O' : Tab} (h : Le O O') {t : Nat} {a : RV} {r : Res} (hx : exLoadR E O t a = some r) : exLoadR E O' t a = some r := by
  unfold exLoadR at hx ⊢
  split at hx
  · rename_i z i off hz
    cases hc : cellsAt O i with
    | none => rw [hc] at hx; simp at hx
    | some cs => rw [hc] at hx; simp only [cellsAt_mono h hc]; exact hx
  · cases hx
theorem exStoreR_mono {E : Env} {O O' : Tab} (h : Le O O') {t : Nat} {a v : RV} {r : Res} (hx : exStoreR E O t a v = some r) : exStoreR E O' t a v = some r := by
  unfold exStoreR at hx ⊢
  split at hx
  · rename_i z i off hz
    cases hc : cellsAt O i with
    | none => rw [hc] at hx; simp at hx
    | some cs => rw [hc] at hx; simp only [cellsAt_mono h hc, setC_mono h hc]; exact hx
  · cases hx
theorem exSliceR_mono {E : Env} {O O' : Tab} (h : Le O O') {t : Nat} {x : RV} {lo hi mx : Option RV} {r : Res} (hx : exSliceR E O t x lo hi mx = some r) : exSliceR E O' t x lo hi mx = some r := by
  unfold exSliceR at hx ⊢
  split at hx
  · split at hx
    · rename_i e i sz o len cap hu
      cases hz : E.size e with
      | none => rw [hz] at hx; simp at hx
      | some z =>
        rw [hz] at hx; simp only at hx
        cases hc : cellsAt O i with
        | none => rw [hc] at hx; simp at hx
        | some cs =>
          have e1 : capLo O' i sz o len cap = capLo O i sz o len cap := by unfold capLo; rw [cellsAt_obj h hc]
          rw [hc] at hx
          simp only [cellsAt_mono h hc, e1]; exact hx
    · exact hx
    · rename_i n e i off hu
      cases hc : cellsAt O i with
      | none => rw [hc] at hx; simp at hx
      | some cs => rw [hc] at hx; simp only [cellsAt_mono h hc]; exact hx
    · cases hx
  · cases hx
theorem exConvR_mono {E : Env} {O O' : Tab} (h : Le O O') {sl : Nat} (hs : O' sl = O sl) {s d : Nat} {x : RV} {r : Res} (hx : exConvR E O sl s d x = some r) : exConvR E O' sl s d x = some r := by
  unfold exConvR at hx ⊢
  split at hx
  · rw [hs]; exact hx
  · rename_i e i sz o len cap hs hd
    cases hg : (isU8 (E.und e) && Nat.beq sz 1) with
    | false => rw [hg] at hx; simp at hx
    | true =>
      rw [hg] at hx
      cases hc : cellsAt O i with
      | none => rw [hc] at hx; simp at hx
      | some cs => rw [hc] at hx; simp only [cellsAt_mono h hc]; exact hx
  · exact hx
  · cases hx
theorem exAppendR_mono {E : Env} {O O' : Tab} (h : Le O O') {sl : Nat} (hs : O' sl = O sl) {t : Nat} {s x : RV} {r : Res} (hx : exAppendR E O sl t s x = some r) : exAppendR E O' sl t s x = some r := by
  unfold exAppendR at hx ⊢
  split at hx
  · rename_i e hu
    split at hx
    · rename_i z by_ hz hby
      cases hsrc : srcCells O z x with
      | none => rw [hsrc] at hx; simp at hx
      | some p =>
        obtain ⟨m, xs⟩ := p
        rw [hsrc] at hx; simp only [srcCells_mono h hsrc, hs] at hx ⊢
        cases hg : (Nat.ble 1 by_ && zeroOk E e z) with
        | false => rw [hg] at hx; simp at hx
        | true =>
          rw [hg] at hx; simp only [cond_true] at hx ⊢
          split at hx
          · exact hx
          · rename_i i sz o len cap
            cases hm : Nat.beq m 0 with
            | true => rw [hm] at hx; exact hx
            | false =>
              rw [hm] at hx; simp only [cond_false] at hx ⊢
              cases hc : cellsAt O i with
              | none => rw [hc] at hx; simp at hx
              | some cs =>
                have e1 : roomFor O' i sz o len m cap cs.length = roomFor O i sz o len m cap cs.length := by unfold roomFor; rw [cellsAt_obj h hc]
                rw [hc] at hx; simp only [cellsAt_mono h hc, setC_mono h hc, cellsAt_obj h hc, e1] at hx ⊢; exact hx
          · cases hx
    · cases hx
  · cases hx
theorem exCopyR_mono {E : Env} {O O' : Tab} (h : Le O O') {t : Nat} {x y : RV} {r : Res} (hx : exCopyR E O t x y = some r) : exCopyR E O' t x y = some r := by
  unfold exCopyR at hx ⊢
  split at hx
  · rename_i e hu
    cases hz : E.size e with
    | none => rw [hz] at hx; simp at hx
    | some z =>
      rw [hz] at hx; simp only at hx ⊢
      cases hsrc : srcCells O z y with
      | none => rw [hsrc] at hx; simp at hx
      | some p =>
        obtain ⟨m, ys⟩ := p
        rw [hsrc] at hx; simp only [srcCells_mono h hsrc] at hx ⊢
        split at hx
        · exact hx
        · rename_i i sz o len cap
          cases h0 : Nat.beq (Nat.min m len) 0 with
          | true => rw [h0] at hx; exact hx
          | false =>
            rw [h0] at hx; simp only [cond_false] at hx ⊢
            cases hc : cellsAt O i with
            | none => rw [hc] at hx; simp at hx
            | some cs => rw [hc] at hx; simp only [cellsAt_mono h hc, setC_mono h hc] at hx ⊢; exact hx
        · cases hx
  · cases hx
theorem exClearR_mono {E : Env} {O O' : Tab} (h : Le O O') {t : Nat} {x : RV} {r : Res} (hx : exClearR E O t x = some r) : exClearR E O' t x = some r := by
  unfold exClearR at hx ⊢
  split at hx
  · rename_i e hu
    split at hx
    · exact hx
    · rename_i i sz o len cap
      cases h0 : Nat.beq len 0 with
      | true => rw [h0] at hx; exact hx
      | false =>
        rw [h0] at hx; simp only [cond_false] at hx ⊢
        cases hc : cellsAt O i with
        | none => rw [hc] at hx; simp at hx
        | some cs => rw [hc] at hx; simp only [cellsAt_mono h hc, setC_mono h hc] at hx ⊢; exact hx
    · cases hx
  · cases hx

theorem exOpR_mono {cf : Cfg} {R : Nat → RV} {O O' : Tab} (h : Le O O') {sl : Nat} (hs : O' sl = O sl) {o : Oper} {res : Res} {un : Bool} (hx : exOpR cf R O sl o = some (res, un)) : exOpR cf R O' sl o = some (res, un) := by
  unfold exOpR at hx ⊢
  have val : ∀ {r r' : Option Res}, valR r = some (res, un) → (r = some res → r' = some res) → valR r' = some (res, un) := by
    intro r r' h1 h2
    cases r with
    | none => simp [valR] at h1
    | some r => simp [valR] at h1; obtain ⟨rfl, rfl⟩ := h1; rw [h2 rfl]; rfl
  cases ho : o.op <;> rw [ho] at hx <;> (try simp only at hx ⊢) <;> try exact hx
  case alloc t =>
    cases hz : cf.E.zero t with
    | none => rw [hz] at hx; simp at hx
    | some z =>
      rw [hz] at hx; simp only at hx ⊢
      refine val hx fun e => ?_
      unfold exAllocR at e ⊢; rw [hs]; exact e
  case box t x => refine val hx fun e => ?_; unfold exAllocR at e ⊢; rw [hs]; exact e
  case buildSlice t n parts => refine val hx fun e => ?_; unfold exBuildSliceR at e ⊢; rw [hs]; exact e
  case load t x => exact val hx fun e => exLoadR_mono h e
  case store t x y =>
    cases h1 : exStoreR cf.E O t (rvOf R x) (rvOf R y) with
    | none => rw [h1] at hx; simp at hx
    | some r => rw [h1] at hx; rw [exStoreR_mono h h1]; exact hx
  case convert s d x => exact val hx fun e => exConvR_mono h hs e
  case slice t x lo hi mx => exact val hx fun e => exSliceR_mono h e
  case makeSlice t l c => refine val hx fun e => ?_; unfold exMakeSliceR at e ⊢; rw [hs]; exact e
  case range t x =>
    refine val hx fun e => ?_
    unfold exRange at e ⊢
    rw [hs]
    split at e
    · exact e
    · rename_i i _ _
      split at e
      · rename_i hi
        rw [h _ _ hi]; exact e
      · cases e
    · cases e
  case next x str =>
    refine val hx fun e => ?_
    unfold exNext at e ⊢
    split at e
    · rename_i j
      split at e
      · rename_i hO
        rw [h _ _ hO]; exact e
      · rename_i m hO
        rw [h _ _ hO]
        simp only
        split at e
        · rename_i hm
          rw [h _ _ hm]; exact e
        · cases e
      · cases e
    · cases e
  case call c =>
    cases hc : c.callee with
    | builtin b =>
      rw [hc] at hx; simp only at hx ⊢
      refine val hx fun e => ?_
      unfold exBuiltinR at e ⊢
      split at e
      · exact e
      · exact e
      · rename_i t t2 x y _ _
        cases hn : notIntB (cf.E.und t2) with
        | false => rw [hn] at e; simp at e
        | true => rw [hn] at e; simp only [cond_true] at e ⊢; exact exAppendR_mono h hs e
      · exact exCopyR_mono h e
      · exact exClearR_mono h e
      · exact e
      · cases e
    | _ => rw [hc] at hx; simp at hx

theorem exOp_mono {cf : Cfg} {R : Nat → RV} {O O' : Tab} (h : Le O O') {sl : Nat} (hs : O' sl = O sl) (hs1 : O' (sl + 1) = O (sl + 1)) {o : Oper} {res : Res} {un : Bool} (hx : exOp cf R O sl o = some (res, un))
    (hk : ∀ p ∈ res.upd, O' p.1 = O p.1) : exOp cf R O' sl o = some (res, un) := by
  unfold exOp at hx ⊢
  cases hv : (cf.vm && isR cf.E R o) with
  | false => rw [hv] at hx; exact exOp0_mono h hs hs1 hx hk
  | true => rw [hv] at hx; exact exOpR_mono h hs hx

end Go.Am

/-
  The abstract machine: regions that draw their order, whose operations change objects: what two operations both touch, they touch in a bound order.
-/
namespace Go.Am
set_option linter.unusedSectionVars false
variable {P : Program} [Gl]

def keysU (u : List (Nat × PObj)) : List Nat := u.map (·.1)

theorem updO_not {u : List (Nat × PObj)} : ∀ {O : Tab} {i : Nat}, i ∉ keysU u → updO O u i = O i := by
  induction u with
  | nil => intro O i _; rfl
  | cons x r ih =>
    intro O i h
    simp only [keysU, List.map_cons, List.mem_cons, not_or] at h
    show updO (setT O x.1 (some x.2)) r i = O i
    rw [ih h.2, setT_ne _ _ h.1]
theorem updO_in {u : List (Nat × PObj)} : ∀ {O O' : Tab} {i : Nat}, i ∈ keysU u → updO O u i = updO O' u i := by
  induction u with
  | nil => intro O O' i h; simp [keysU] at h
  | cons x r ih =>
    intro O O' i h
    show updO (setT O x.1 (some x.2)) r i = updO (setT O' x.1 (some x.2)) r i
    by_cases hr : i ∈ keysU r
    · exact ih hr
    · have e : i = x.1 := by
        simp only [keysU, List.map_cons, List.mem_cons] at h
        rcases h with h | h
        · exact h
        · exact absurd h hr
      rw [updO_not hr, updO_not hr, e, setT_same, setT_same]

/-- The table when those operations are through that 'L' names. -/
def mixT (L : Nat → Bool) : Nat → List (List (Nat × PObj)) → Tab → Tab
  | _, [], O => O
  | k, u :: us, O => mixT L (k + 1) us (bif L k then updO O u else O)

theorem mixT_agree {L M : Nat → Bool} {i : Nat} : ∀ (us : List (List (Nat × PObj))) (k : Nat) (O O' : Tab), O i = O' i → (∀ (j : Nat) (u : List (Nat × PObj)), us[j]? = some u → i ∈ keysU u → L (k + j) = M (k + j)) →
    mixT L k us O i = mixT M k us O' i
  | [], _, _, _, h, _ => h
  | u :: us, k, O, O', h, hj => by
    simp only [mixT]
    refine mixT_agree us (k + 1) _ _ ?_ (fun j u' hu hi => by have := hj (j + 1) u' (by simpa using hu) hi; rw [show k + 1 + j = k + (j + 1) by omega]; exact this)
    by_cases hi : i ∈ keysU u
    · have := hj 0 u rfl hi
      rw [Nat.add_zero] at this
      rw [this]
      cases M k with
      | true => simp only [cond_true]; exact updO_in hi
      | false => simp only [cond_false]; exact h
    · have key : ∀ (b : Bool) (X : Tab), (bif b then updO X u else X) i = X i := fun b X => by cases b <;> simp [updO_not hi]
      rw [key, key]; exact h

theorem mixT_none {L : Nat → Bool} : ∀ (us : List (List (Nat × PObj))) (k : Nat) (O : Tab), (∀ j, j < us.length → L (k + j) = false) → mixT L k us O = O
  | [], _, _, _ => rfl
  | u :: us, k, O, h => by
    simp only [mixT]
    have := h 0 (by simp); rw [Nat.add_zero] at this
    rw [this, cond_false]
    exact mixT_none us (k + 1) O (fun j hj => by rw [show k + 1 + j = k + (j + 1) by omega]; exact h (j + 1) (by simpa using hj))

/-- The first so many operations. -/
theorem mixT_take : ∀ (us : List (List (Nat × PObj))) (k n : Nat) (O : Tab), mixT (fun x => decide (x < k + n)) k us O = (us.take n).foldl updO O
  | [], _, n, O => by simp [mixT]
  | u :: us, k, 0, O => by
    rw [List.take_zero, List.foldl_nil]
    exact mixT_none _ _ _ (fun j _ => by simp)
  | u :: us, k, n + 1, O => by
    simp only [mixT, List.take_succ_cons, List.foldl_cons]
    have : decide (k < k + (n + 1)) = true := by simp
    rw [this, cond_true, ← mixT_take us (k + 1) n]
    congr 1
    funext x
    congr 1
    apply propext; omega

/-- One operation more. -/
theorem mixT_insert {L L' : Nat → Bool} : ∀ (us : List (List (Nat × PObj))) (k j : Nat) (u : List (Nat × PObj)) (O : Tab), us[j]? = some u → L (k + j) = false → L' (k + j) = true → (∀ x, x ≠ k + j → L' x = L x) →
    (∀ (x : Nat) (u' : List (Nat × PObj)), j < x → us[x]? = some u' → L (k + x) = true → ∀ i ∈ keysU u, i ∉ keysU u') → mixT L' k us O = updO (mixT L k us O) u
  | [], _, _, _, _, h, _, _, _, _ => by simp at h
  | a :: us, k, 0, u, O, h, h1, h2, h3, h4 => by
    simp at h; subst h
    simp only [mixT]
    rw [Nat.add_zero] at h1 h2 h3
    rw [h1, h2, cond_true, cond_false]
    -- the rest is the same, and does not touch a's keys
    have rest : ∀ (vs : List (List (Nat × PObj))) (k' : Nat) (X : Tab), (∀ j, L' (k' + j) = L (k' + j)) → (∀ (x : Nat) (u' : List (Nat × PObj)), vs[x]? = some u' → L (k' + x) = true → ∀ i ∈ keysU a, i ∉ keysU u') →
        mixT L' k' vs (updO X a) = updO (mixT L k' vs X) a := by
      intro vs
      induction vs with
      | nil => intro k' X _ _; rfl
      | cons b vs ih =>
        intro k' X e1 e2
        simp only [mixT]
        have e0 := e1 0; rw [Nat.add_zero] at e0
        rw [e0]
        have r1 : ∀ j, L' (k' + 1 + j) = L (k' + 1 + j) := fun j => by have := e1 (j + 1); rw [show k' + 1 + j = k' + (j + 1) by omega]; exact this
        have r2 : ∀ (x : Nat) (u' : List (Nat × PObj)), vs[x]? = some u' → L (k' + 1 + x) = true → ∀ i ∈ keysU a, i ∉ keysU u' := fun x u' hu hl => by
          exact e2 (x + 1) u' (by simpa using hu) (by rw [show k' + (x + 1) = k' + 1 + x by omega]; exact hl)
        cases hL : L k' with
        | false => simp only [cond_false]; exact ih (k' + 1) X r1 r2
        | true =>
          simp only [cond_true]
          have hdis := e2 0 b rfl (by rw [Nat.add_zero]; exact hL)
          have comm : updO (updO X a) b = updO (updO X b) a := by
            funext i
            by_cases ha : i ∈ keysU a
            · have hb := hdis i ha
              rw [updO_not hb]; exact updO_in ha
            · rw [updO_not ha (O := updO X b)]
              by_cases hb : i ∈ keysU b
              · exact updO_in hb
              · rw [updO_not hb, updO_not hb, updO_not ha]
          rw [comm]
          exact ih (k' + 1) _ r1 r2
    exact rest us (k + 1) O (fun j => h3 _ (by omega)) (fun x u' hu hl => h4 (x + 1) u' (by omega) (by simpa using hu) (by rw [show k + (x + 1) = k + 1 + x by omega]; exact hl))
  | a :: us, k, j + 1, u, O, h, h1, h2, h3, h4 => by
    simp only [mixT]
    rw [h3 k (by omega)]
    exact mixT_insert us (k + 1) j u _ (by simpa using h) (by rw [show k + 1 + j = k + (j + 1) by omega]; exact h1) (by rw [show k + 1 + j = k + (j + 1) by omega]; exact h2)
      (fun x hx => h3 x (by omega)) (fun x u' hx hu hl => h4 (x + 1) u' (by omega) (by simpa using hu) (by rw [show k + (x + 1) = k + 1 + x by omega]; exact hl))

/-- Which operation is bound to be before which. -/
inductive Before (ops : Array Oper) : Nat → Nat → Prop
  | edge {j k : Nat} {o : Oper} (ho : ops[j]? = some o) {e : Edge} (he : e ∈ o.after) (hb : Region.binds .any e = true) (hk : e.on = k) : Before ops k j
  | step {j k : Nat} {o : Oper} (ho : ops[j]? = some o) {e : Edge} (he : e ∈ o.after) (hb : Region.binds .any e = true) (hk : Before ops k e.on) : Before ops k j

def bitB (m k : Nat) : Bool := Nat.beq (m / 2 ^ k % 2) 1
theorem bitB_eq (m k : Nat) : bitB m k = m.testBit k := by
  rw [Nat.testBit_eq_decide_div_mod_eq]
  unfold bitB
  by_cases h : m / 2 ^ k % 2 = 1
  · rw [nbT h, decide_eq_true h]
  · rw [nbF h, decide_eq_false h]

def ancOf (acc : List Nat) (o : Oper) : Nat := o.after.toList.foldl (fun m e => bif Region.binds .any e then (m ||| 2 ^ e.on) ||| acc.getD e.on 0 else m) 0
def ancs : List Oper → List Nat → List Nat
  | [], acc => acc
  | o :: r, acc => ancs r (acc ++ [ancOf acc o])

theorem ancOf_spec {ops : Array Oper} {acc : List Nat} {o : Oper} {j : Nat} (ho : ops[j]? = some o) (hacc : ∀ (i k : Nat), (acc.getD i 0).testBit k = true → Before ops k i) {k : Nat} (h : (ancOf acc o).testBit k = true) : Before ops k j := by
  unfold ancOf at h
  have key : ∀ (l : List Edge) (m : Nat), (∀ e ∈ l, e ∈ o.after) → (m.testBit k = true → Before ops k j) →
      (l.foldl (fun m e => bif Region.binds .any e then (m ||| 2 ^ e.on) ||| acc.getD e.on 0 else m) m).testBit k = true → Before ops k j := by
    intro l
    induction l with
    | nil => intro m _ hm h; exact hm h
    | cons e l ih =>
      intro m hl hm h
      simp only [List.foldl_cons] at h
      refine ih _ (fun x hx => hl x (by simp [hx])) (fun h2 => ?_) h
      cases hb : Region.binds .any e with
      | false => rw [hb] at h2; exact hm h2
      | true =>
        rw [hb] at h2; simp only [cond_true, Nat.testBit_or, Bool.or_eq_true, Nat.testBit_two_pow, decide_eq_true_eq] at h2
        rcases h2 with (h2 | h2) | h2
        · exact hm h2
        · exact .edge ho (hl e (by simp)) hb h2
        · exact .step ho (hl e (by simp)) hb (hacc _ _ h2)
  exact key o.after.toList 0 (fun e he => by simpa using he) (fun h => by simp at h) h

theorem ancs_spec {ops : Array Oper} : ∀ (l : List Oper) (acc : List Nat), (∀ (i : Nat) (o : Oper), l[i]? = some o → ops[acc.length + i]? = some o) → (∀ (i k : Nat), (acc.getD i 0).testBit k = true → Before ops k i) →
    ∀ (i k : Nat), ((ancs l acc).getD i 0).testBit k = true → Before ops k i
  | [], acc, _, h => h
  | o :: r, acc, hl, h => by
    refine ancs_spec r (acc ++ [ancOf acc o]) (fun i o' hi => ?_) (fun i k hk => ?_)
    · have := hl (i + 1) o' (by simpa using hi)
      rw [← this]; congr 1; simp; omega
    · rcases Nat.lt_trichotomy i acc.length with hi | hi | hi
      · refine h i k ?_
        rw [List.getD_eq_getElem?_getD, List.getElem?_append_left hi] at hk
        rw [List.getD_eq_getElem?_getD]; exact hk
      · subst hi
        rw [List.getD_eq_getElem?_getD, List.getElem?_append_right (Nat.le_refl _)] at hk
        simp at hk
        exact ancOf_spec (by simpa using hl 0 o rfl) h hk
      · rw [List.getD_eq_getElem?_getD, List.getElem?_append_right (by omega)] at hk
        have : i - acc.length ≠ 0 := by omega
        simp [this] at hk

theorem Before.done {ops : Array Oper} {L : Nat → Bool} (hL : ∀ (j : Nat) (o : Oper), ops[j]? = some o → L j = true → ∀ e ∈ o.after, Region.binds .any e = true → L e.on = true) {k j : Nat} (h : Before ops k j) (hj : L j = true) : L k = true := by
  induction h with
  | edge ho he hb hk => subst hk; exact hL _ _ ho hj _ he hb
  | step ho he hb _ ih => exact ih (hL _ _ ho hj _ he hb)
theorem Before.ready {ops : Array Oper} {L : Nat → Bool} (hL : ∀ (j : Nat) (o : Oper), ops[j]? = some o → L j = true → ∀ e ∈ o.after, Region.binds .any e = true → L e.on = true) {k j : Nat} (h : Before ops k j)
    (hj : ∀ o, ops[j]? = some o → ∀ e ∈ o.after, Region.binds .any e = true → L e.on = true) : L k = true := by
  cases h with
  | edge ho he hb hk => subst hk; exact hj _ ho _ he hb
  | step ho he hb hk => exact hk.done hL (hj _ ho _ he hb)

end Go.Am
