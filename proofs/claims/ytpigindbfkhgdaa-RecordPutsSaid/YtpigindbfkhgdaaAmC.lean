/-
  The abstract machine, third part: the driver, contracts, tables of contracts, a law out of its contract.
-/
import Derived.Test.YtpigindbfkhgdaaAmB
import Derived.Below
import Derived.Laws.AppendOwn
import Derived.WideKeyArgs
import Derived.ChangeShapes
import Derived.ChangeArms
import Derived.RowKit
import Derived.ProofKit
import Derived.OpenShut
import Derived.JoinedCond
import GoSem.ClaimJoined

/-
  The abstract machine: the driver of straight code; states of which less is said; contracts out of runs.
-/
namespace Go.Am
variable {P : Program}

def stepRegion (cf : Cfg) (ov : Ov) (ops : Array Oper) (draw : Bool) (ac : Acc) : Option Acc :=
  bif guardsOk ac.st.n ops then
    bif draw then
      bif quietOk ops then
        match runQ cf ops ov ac.st.objs.get ops.toList ac.st.regs [] [] with
        | some (t, cs, es) => some { st := { ac.st with regs := t }, cs := ac.cs ++ cs, es := ac.es ++ es }
        | none => none
      else none
    else runOps cf ops ov ops.toList ac
  else none

/-- Runs until the end, or until a loop's head; so many heads are gone past. -/
def drive (cf : Cfg) (ov : Ov) : Nat → Nat → List It → Acc → Option (List It × Acc)
  | 0, _, _, _ => none
  | n + 1, l, k, ac =>
    match k with
    | [] => some ([], ac)
    | .blk _ :: k => drive cf ov n l k ac
    | .lp b :: k => match l with
      | 0 => some (.code b :: .lp b :: k, ac)
      | l + 1 => drive cf ov n l (.code b :: .lp b :: k) ac
    | .code c :: k => match c with
      | .skip => drive cf ov n l k ac
      | .seq x y => drive cf ov n l (.code x :: .code y :: k) ac
      | .region _ ops draw => match stepRegion cf ov ops draw ac with
        | some ac' => drive cf ov n l k ac'
        | none => none
      | .cond c x y => match rvOf (regOf ac.st.regs) c with
        | .d (.bool t) => match t with
          | true => drive cf ov n l (.code x :: k) ac
          | false => drive cf ov n l (.code y :: k) ac
        | _ => none
      | .block id b => drive cf ov n l (.code b :: .blk id :: k) ac
      | .loop b => match l with
        | 0 => some (.code b :: .lp b :: k, ac)
        | l + 1 => drive cf ov n l (.code b :: .lp b :: k) ac
      | .exit id => match exitT id k with
        | some k' => drive cf ov n l k' ac
        | none => none
      | .ret => some ([], ac)
      | _ => none

theorem stepRegion_cs {cf : Cfg} {ov : Ov} {ops : Array Oper} {draw : Bool} {ac ac' : Acc} (h : stepRegion cf ov ops draw ac = some ac') :
    (∀ c ∈ ac.cs, c ∈ ac'.cs) ∧ (∀ e ∈ ac.es, e ∈ ac'.es) ∧ ac'.st.m = ac.st.m ∧ ac'.st.n = ac.st.n := by
  unfold stepRegion at h
  cases hg : guardsOk ac.st.n ops with
  | false => rw [hg] at h; simp at h
  | true =>
    rw [hg] at h; simp only [cond_true] at h
    cases draw with
    | false => simp only [cond_false] at h; exact runOps_cs _ h
    | true =>
      simp only [cond_true] at h
      cases hq : quietOk ops with
      | false => rw [hq] at h; simp at h
      | true =>
        rw [hq] at h; simp only [cond_true] at h
        split at h
        · injection h with h; subst h
          exact ⟨fun c hc => by simp [hc], fun e he => by simp [he], rfl, rfl⟩
        · simp at h

theorem stepRegion_wk {cf : Cfg} (hcf : CfOk P cf) (hmix : P.follows .mixedOrders = true) {ov : Ov} {ops : Array Oper} {draw : Bool} {ac ac' : Acc} (h : stepRegion cf ov ops draw ac = some ac')
    (hc : ∀ c ∈ ac'.cs, c = true) (he : ∀ e ∈ ac'.es, RVle e.1 e.2) {id : Nat} {k : List It} {m : Nat} {Q : SSt → Prop} (hk : WK P m k ac'.st.den Q) : WK P m (.code (.region id ops draw) :: k) ac.st.den Q := by
  unfold stepRegion at h
  cases hg : guardsOk ac.st.n ops with
  | false => rw [hg] at h; simp at h
  | true =>
    rw [hg] at h; simp only [cond_true] at h
    cases draw with
    | false =>
      simp only [cond_false] at h
      refine WK.region (s' := ac'.st.den) (fun κ φ w a F => ?_) hk
      have := runOps_wp (Q := fun e a' w' => e = .normal ∧ ∃ κ' φ', FRel κ' φ' w' ac'.st.den a' ∧ Fr κ w κ' w' ∧ KpM m φ ac.st.den.O φ' ac'.st.den.O) hcf ops.toList 0 F h hc he hg (fun i o hi => by simpa using hi)
        (fun a' w' κ' φ' g1 g2 g3 => ⟨rfl, κ', φ', g1, g2, g3.m m⟩)
      rw [List.range_eq_range']
      simpa using this
    | true =>
      simp only [cond_true] at h
      cases hq : quietOk ops with
      | false => rw [hq] at h; simp at h
      | true =>
        rw [hq] at h; simp only [cond_true] at h
        cases hr : runQ cf ops ov ac.st.objs.get ops.toList ac.st.regs [] [] with
        | none => rw [hr] at h; simp at h
        | some p =>
          obtain ⟨t, cs, es⟩ := p
          rw [hr] at h; simp only [Option.some.injEq] at h; subst h
          refine WK.regionD (s' := { ac.st.den with R := regOf t }) hmix (fun κ φ w a F => ?_) hk
          have key := quiet_any (κ0 := κ) (w0 := w) (φ0 := φ) (m := m) hcf (s := ac.st.den) (t := ac.st.regs) hq hg rfl hr (fun c hcc => hc c (by simp [hcc])) (fun e hee => he e (by simp [hee]))
          refine key ops.size (Array.replicate ops.size false) κ φ w a (by simp) (by simp [List.countP_replicate]) ?_ (Fr.refl _ _) (KpM.refl _ _ _)
          have : mixR ops ac.st.den.R (regOf t) (Array.replicate ops.size false) = ac.st.den.R := by
            funext d
            unfold mixR
            rw [if_neg]
            rintro ⟨i, o, _, _, h3⟩
            by_cases hi : i < ops.size <;> simp [Array.getD, hi] at h3
          rw [this]; exact F

theorem drive_cs {cf : Cfg} {ov : Ov} : ∀ (n l : Nat) (k k' : List It) (ac ac' : Acc), drive cf ov n l k ac = some (k', ac') → (∀ c ∈ ac.cs, c ∈ ac'.cs) ∧ (∀ e ∈ ac.es, e ∈ ac'.es)
  | 0, _, _, _, _, _, h => by simp [drive] at h
  | n + 1, l, k, k', ac, ac', h => by
    have base : ∀ {k k' : List It} {a a' : Acc}, some (k, a) = some (k', a') → (∀ c ∈ a.cs, c ∈ a'.cs) ∧ (∀ e ∈ a.es, e ∈ a'.es) := by
      intro k k' a a' h
      injection h with h; injection h with h1 h2; subst h2
      exact ⟨fun _ h => h, fun _ h => h⟩
    unfold drive at h
    split at h
    · exact base h
    · exact drive_cs n l _ _ _ _ h
    · split at h
      · exact base h
      · exact drive_cs n _ _ _ _ _ h
    · split at h
      · exact drive_cs n l _ _ _ _ h
      · exact drive_cs n l _ _ _ _ h
      · split at h
        · rename_i a1 hs
          obtain ⟨p1, p2, _⟩ := stepRegion_cs hs
          obtain ⟨q1, q2⟩ := drive_cs n l _ _ _ _ h
          exact ⟨fun c hc => q1 c (p1 c hc), fun e he => q2 e (p2 e he)⟩
        · simp at h
      · split at h
        · split at h <;> exact drive_cs n l _ _ _ _ h
        · simp at h
      · exact drive_cs n l _ _ _ _ h
      · split at h
        · exact base h
        · exact drive_cs n _ _ _ _ _ h
      · split at h
        · exact drive_cs n l _ _ _ _ h
        · simp at h
      · exact base h
      · simp at h

theorem drive_wk {cf : Cfg} (hcf : CfOk P cf) (hmix : P.follows .mixedOrders = true) {ov : Ov} {m : Nat} {Q : SSt → Prop} : ∀ (n l : Nat) (k k' : List It) (ac ac' : Acc), drive cf ov n l k ac = some (k', ac') →
    (∀ c ∈ ac'.cs, c = true) → (∀ e ∈ ac'.es, RVle e.1 e.2) → (k' = [] → Q ac'.st.den) → (k' ≠ [] → WK P m k' ac'.st.den Q) → WK P m k ac.st.den Q
  | 0, _, _, _, _, _, h, _, _, _, _ => by simp [drive] at h
  | n + 1, l, k, k', ac, ac', h, hc, he, h1, h2 => by
    unfold drive at h
    split at h
    · injection h with h; injection h with e1 e2; subst e1; subst e2
      exact WK.done (h1 rfl)
    · exact WK.blk (drive_wk hcf hmix n l _ _ _ _ h hc he h1 h2)
    · split at h
      · injection h with h; injection h with e1 e2; subst e1; subst e2
        exact WK.again (h2 (by simp))
      · exact WK.again (drive_wk hcf hmix n _ _ _ _ _ h hc he h1 h2)
    · split at h
      · exact WK.skip (drive_wk hcf hmix n l _ _ _ _ h hc he h1 h2)
      · exact WK.seq (drive_wk hcf hmix n l _ _ _ _ h hc he h1 h2)
      · split at h
        · rename_i a1 hs
          obtain ⟨q1, q2⟩ := drive_cs n l _ _ _ _ h
          exact stepRegion_wk hcf hmix hs (fun c hcc => hc c (q1 c hcc)) (fun e hee => he e (q2 e hee)) (drive_wk hcf hmix n l _ _ _ _ h hc he h1 h2)
        · simp at h
      · split at h
        · rename_i t hcond
          cases t with
          | true => exact WK.cond (t := true) hcond (drive_wk hcf hmix n l _ _ _ _ h hc he h1 h2)
          | false => exact WK.cond (t := false) hcond (drive_wk hcf hmix n l _ _ _ _ h hc he h1 h2)
        · simp at h
      · exact WK.block (drive_wk hcf hmix n l _ _ _ _ h hc he h1 h2)
      · split at h
        · injection h with h; injection h with e1 e2; subst e1; subst e2
          exact WK.enter (h2 (by simp))
        · exact WK.enter (drive_wk hcf hmix n _ _ _ _ _ h hc he h1 h2)
      · split at h
        · rename_i k1 hex
          exact WK.exit hex (drive_wk hcf hmix n l _ _ _ _ h hc he h1 h2)
        · simp at h
      · injection h with h; injection h with e1 e2; subst e1; subst e2
        exact WK.ret (h1 rfl)
      · simp at h

/-- A nil slice (or one without room) as an array of one's own, that is empty. -/
theorem FRel.nilOwn {κ : Kap} {φ : Phi} {w : World} {s : SSt} {a : Act} (F : FRel κ φ w s a) {t sl sz sz' : Nat} (ht : s.R t = .d (.lst sz' [] true)) (hs : s.O sl = none) :
    FRel κ (setP φ sl .nil) w { s with R := setR s.R t (.own sl sz), O := setT s.O sl (some (.arr sz [])) } a ∧ Kp φ s.O (setP φ sl .nil) (setT s.O sl (some (.arr sz []))) := by
  have hun : φ sl = .un := by have := F.objs sl; rw [hs] at this; exact this
  obtain ⟨q1, q2, _⟩ := F.upd1 (i := sl) (p := .arr sz []) (κ' := κ) (φ' := setP φ sl .nil) (w' := w) (Nat.le_refl _) (fun _ h => h) (fun _ _ _ _ h => h) (fun _ _ h => h) (fun _ _ _ _ => rfl)
    (fun j hj => setP_ne _ _ hj) (fun h => absurd hun h) (fun _ c _ fz hc => ⟨c, fz, hc, rfl⟩) (fun h => absurd hun h) F.bnd (fun M => .inl ⟨setP_same _ _ _, rfl⟩)
  refine ⟨⟨fun x => ?_, q1.objs, q1.bnd, q1.n, q1.df⟩, q2.kp⟩
  by_cases e : x = t
  · subst e
    simp only [setR, if_true]
    have r := F.regs x
    rw [ht] at r
    generalize a.tmps.getD x undef = v at r
    cases r with
    | d hr =>
      cases hr with
      | lst0 hf => have := hf rfl; subst this; exact .ownNil (setP_same _ _ _)
      | lst _ _ hf hc _ _ _ => have := hf rfl; simp only [List.length_nil] at this; subst this; exact .ownNil (setP_same _ _ _)
  · simp only [setR, if_neg e]; exact q1.regs x

def renOf (olds nws : List Nat) (i : Nat) : Option Nat :=
  match idx i olds 0 with
  | some k => nws[k]?
  | none => none

theorem renOf_spec {olds nws : List Nat} {i j : Nat} (h : renOf olds nws i = some j) : ∃ k : Nat, olds[k]? = some i ∧ nws[k]? = some j := by
  unfold renOf at h
  cases e : idx i olds 0 with
  | none => rw [e] at h; simp at h
  | some k => rw [e] at h; exact ⟨k, by have := (idx_spec i olds 0 k e).2; simpa using this, h⟩

theorem renOf_of {olds nws : List Nat} (hn : nodupB olds = true) {i j k : Nat} (h1 : olds[k]? = some i) (h2 : nws[k]? = some j) : renOf olds nws i = some j := by
  unfold renOf
  obtain ⟨k', hk'⟩ := idx_mem i olds 0 (List.mem_iff_getElem?.2 ⟨k, h1⟩)
  have := (idx_spec i olds 0 k' hk').2
  simp only [Nat.sub_zero] at this
  rw [hk', nodupB_spec olds hn k' k i this h1]; exact h2

theorem ren_len {ρ : Nat → Option Nat} {p q : PObj} (h : p.ren ρ = some q) : PObj.len? (some q) = PObj.len? (some p) := by
  cases p <;> simp only [PObj.ren] at h <;> try (injection h with h; subst h; rfl)
  split at h
  · injection h with h; subst h; rfl
  · simp at h

/-- Only some registers and objects are kept, the objects under other numbers. -/
theorem FRel.keep {κ : Kap} {φ : Phi} {w : World} {s s' : SSt} {a : Act} (F : FRel κ φ w s a) {olds nws : List Nat} (hl : nws.length = olds.length) (h1 : nodupB olds = true) (h2 : nodupB nws = true)
    (hn : s'.n = s.n) (hR : ∀ t, s'.R t = .bot ∨ RV.ren (renOf olds nws) 6 (s.R t) = some (s'.R t))
    (hO : ∀ (k i j : Nat), olds[k]? = some i → nws[k]? = some j → ∃ p q, s.O i = some p ∧ p.ren (renOf olds nws) = some q ∧ s'.O j = some q) (hO' : ∀ j, j ∉ nws → s'.O j = none) :
    ∃ κ' φ', FRel κ' φ' w s' a ∧ Fr κ w κ' w ∧ ∀ (m : Nat), (∀ i, i < m → renOf olds nws i = some i) → KpM m φ s.O φ' s'.O := by
  let κ' : Kap := fun b => match κ b with
    | .imm => .imm
    | .own i => match renOf olds nws i with | some j => .own j | none => .oth
    | .oth => .oth
  let φ' : Phi := fun j => match renOf nws olds j with | some i => φ i | none => .un
  have inv : ∀ i j, renOf olds nws i = some j → renOf nws olds j = some i := fun i j h => by
    obtain ⟨k, e1, e2⟩ := renOf_spec h
    exact renOf_of h2 e2 e1
  have himm : ∀ b, κ b = .imm → κ' b = .imm := fun b hb => by simp only [κ', hb]
  have hφ : ∀ i j, renOf olds nws i = some j → φ i ≠ .un → φ' j = φ i := fun i j h _ => by simp only [φ', inv i j h]
  have hlen : ∀ i j n, renOf olds nws i = some j → φ i ≠ .un → PObj.len? (s'.O j) = some n → PObj.len? (s.O i) = some n := by
    intro i j n h _ hn
    obtain ⟨k, e1, e2⟩ := renOf_spec h
    obtain ⟨p, q, g1, g2, g3⟩ := hO k i j e1 e2
    rw [g1, ← ren_len g2, ← g3]; exact hn
  refine ⟨κ', φ', ⟨fun t => ?_, fun j => ?_, fun b hb => F.bnd b (fun e => by simp only [κ', e] at hb; exact hb rfl), by rw [hn]; exact F.n, F.df⟩,
    ⟨Nat.le_refl _, fun b hb => ⟨himm b hb, rfl⟩, fun b _ hb => ⟨by simp only [κ', hb], rfl⟩, fun _ c _ fz hc => ⟨c, fz, hc, rfl⟩, rfl, rfl⟩, fun m hm => ⟨fun i hi hu => hφ i i (hm i hi) hu, fun i n hi hu hn => hlen i i n (hm i hi) hu hn⟩⟩
  · rcases hR t with e | e
    · rw [e]; exact .bot _
    · exact RVR.ren himm hφ hlen 6 _ _ _ e (F.regs t)
  · by_cases hj : j ∈ nws
    · obtain ⟨k, hk⟩ := List.mem_iff_getElem?.1 hj
      have hlt := (List.getElem?_eq_some_iff.1 hk).1
      have hlt2 : k < olds.length := by omega
      have hi : olds[k]? = some olds[k] := by simp [hlt2]
      obtain ⟨p, q, g1, g2, g3⟩ := hO k _ j hi hk
      rw [g3]
      have ho := F.objs olds[k]
      rw [g1] at ho
      exact OR.ren himm hφ hlen (renOf_of h1 hi hk) (fun b hb => by simp only [κ', hb, renOf_of h1 hi hk]) g2 ho
    · rw [hO' j hj]
      show φ' j = .un
      simp only [φ']
      cases e : renOf nws olds j with
      | none => rfl
      | some i =>
        obtain ⟨k, e1, _⟩ := renOf_spec e
        exact absurd (List.mem_iff_getElem?.2 ⟨k, e1⟩) hj

/-- What is kept of a state. -/
structure Post where
  nils : List (Nat × Nat × Nat) := []
  live : List Nat
  olds : List Nat := []
  nws : List Nat := []

def doNils : List (Nat × Nat × Nat) → ESt → Option ESt
  | [], st => some st
  | (t, sl, sz) :: r, st => match regOf st.regs t, st.objs.get sl with
    | .d (.lst _ [] true), none => bif Nat.ble t 8000 && Nat.ble sl 65000 then doNils r { st with regs := st.regs.set t (some (.own sl sz)), objs := st.objs.set sl (some (.arr sz [])) } else none
    | _, _ => none

def zipT {α : Type} : List Nat → List α → List (Nat × α)
  | i :: r, x :: q => (i, x) :: zipT r q
  | _, _ => []

def doKeep (p : Post) (st : ESt) : Option ESt :=
  let olds := List.range st.m ++ p.olds
  let nws := List.range st.m ++ p.nws
  bif Nat.beq nws.length olds.length && nodupB olds && nodupB nws && nodupB p.live && (p.live.all fun t => Nat.ble t 8000) && (nws.all fun t => Nat.ble t 65000) then
    match mapO (fun t => RV.ren (renOf olds nws) 6 (regOf st.regs t)) p.live, mapO (fun i => match st.objs.get i with | some q => q.ren (renOf olds nws) | none => none) olds with
    | some rs, some os => some { st with regs := T.mk (zipT p.live rs), objs := T.mk (zipT nws os) }
    | _, _ => none
  else none

def doPost (p : Post) (st : ESt) : Option ESt :=
  match doNils p.nils st with
  | some st' => doKeep p st'
  | none => none

theorem mk_get {α : Type} : ∀ (l : List Nat) (v : List α), v.length = l.length → nodupB l = true → (l.all fun t => Nat.ble t 65000) = true →
    (∀ (k i : Nat), l[k]? = some i → (T.mk (zipT l v)).get i = v[k]?) ∧ (∀ i, i ∉ l → (T.mk (zipT l v)).get i = none)
  | [], v, hl, _, _ => by
    have : v = [] := List.eq_nil_of_length_eq_zero (by simpa using hl)
    subst this
    exact ⟨by simp, fun i _ => rfl⟩
  | i0 :: l, [], hl, _, _ => by simp at hl
  | i0 :: l, x :: v, hl, hn, hb => by
    simp only [nodupB, Bool.and_eq_true, Bool.not_eq_true'] at hn
    simp only [List.all_cons, Bool.and_eq_true] at hb
    obtain ⟨h1, h2⟩ := mk_get l v (by simpa using hl) hn.2 hb.2
    have hlt := Nat.le_of_ble_eq_true hb.1
    have hni : i0 ∉ l := fun hm => by
      have := List.any_eq_false.1 hn.1 i0 hm
      rw [nbT rfl] at this; simp at this
    refine ⟨fun k i hk => ?_, fun i hi => ?_⟩
    · cases k with
      | zero => simp at hk; subst hk; simp only [zipT, T.mk]; rw [T.get_set_same _ (by omega)]; rfl
      | succ k =>
        simp only [List.getElem?_cons_succ] at hk
        have hne : i ≠ i0 := fun e => by subst e; exact hni (List.mem_iff_getElem?.2 ⟨k, hk⟩)
        simp only [zipT, T.mk]; rw [T.get_set_ne _ hne, h1 k i hk]; rfl
    · simp only [List.mem_cons, not_or] at hi
      simp only [zipT, T.mk]; rw [T.get_set_ne _ hi.1, h2 i hi.2]

theorem doNils_ok : ∀ (l : List (Nat × Nat × Nat)) {st st' : ESt}, doNils l st = some st' → (∀ κ φ w a, FRel κ φ w st.den a → ∃ φ', FRel κ φ' w st'.den a ∧ Kp φ st.den.O φ' st'.den.O) ∧ st'.m = st.m ∧ st'.n = st.n
  | [], st, st', h => by simp [doNils] at h; subst h; exact ⟨fun κ φ w a F => ⟨φ, F, Kp.refl _ _⟩, rfl, rfl⟩
  | (t, sl, sz) :: r, st, st', h => by
    simp only [doNils] at h
    split at h
    · rename_i sz' hr ho
      cases hb : (Nat.ble t 8000 && Nat.ble sl 65000) with
      | false => rw [hb] at h; simp at h
      | true =>
        rw [hb] at h; simp only [cond_true] at h
        simp only [Bool.and_eq_true] at hb
        have b1 := Nat.le_of_ble_eq_true hb.1
        have b2 := Nat.le_of_ble_eq_true hb.2
        obtain ⟨h1, h2, h3⟩ := doNils_ok r h
        refine ⟨fun κ φ w a F => ?_, h2, h3⟩
        obtain ⟨g1, g2⟩ := FRel.nilOwn (s := st.den) F (t := t) (sl := sl) (sz := sz) hr ho
        have e : ({ st with regs := st.regs.set t (some (.own sl sz)), objs := st.objs.set sl (some (.arr sz [])) } : ESt).den = { st.den with R := setR st.den.R t (.own sl sz), O := setT st.den.O sl (some (.arr sz [])) } := by
          simp only [ESt.den]
          rw [regOf_set (by omega)]
          congr 1
          funext j
          by_cases e : j = sl
          · subst e; rw [T.get_set_same _ (by omega), setT_same]
          · rw [T.get_set_ne _ e, setT_ne _ _ e]
        rw [← e] at g1
        obtain ⟨φ', g3, g4⟩ := h1 κ _ w a g1
        rw [e] at g4
        exact ⟨φ', g3, g2.trans g4⟩
    · simp at h

theorem doPost_wk {p : Post} {st st' : ESt} (h : doPost p st = some st') {k : List It} {Q : SSt → Prop} (hk : WK P st.m k st'.den Q) : WK P st.m k st.den Q := by
  unfold doPost at h
  cases h1 : doNils p.nils st with
  | none => rw [h1] at h; simp at h
  | some s1 =>
    rw [h1] at h; simp only at h
    obtain ⟨n1, n2, n3⟩ := doNils_ok _ h1
    unfold doKeep at h
    simp only at h
    generalize ho : List.range s1.m ++ p.olds = olds at h
    generalize hw : List.range s1.m ++ p.nws = nws at h
    cases hg : (Nat.beq nws.length olds.length && nodupB olds && nodupB nws && nodupB p.live && (p.live.all fun t => Nat.ble t 8000) && (nws.all fun t => Nat.ble t 65000)) with
    | false => rw [hg] at h; simp at h
    | true =>
      rw [hg] at h; simp only [cond_true] at h
      simp only [Bool.and_eq_true] at hg
      obtain ⟨⟨⟨⟨⟨g1, g2⟩, g3⟩, g4⟩, g5⟩, g6⟩ := hg
      have g1 := nbE g1
      cases hr : mapO (fun t => RV.ren (renOf olds nws) 6 (regOf s1.regs t)) p.live with
      | none => rw [hr] at h; simp at h
      | some rs =>
        cases hos : mapO (fun i => match s1.objs.get i with | some q => q.ren (renOf olds nws) | none => none) olds with
        | none => rw [hr, hos] at h; simp at h
        | some os =>
          rw [hr, hos] at h; simp only [Option.some.injEq] at h; subst h
          obtain ⟨r1, r2⟩ := mapO_spec _ _ _ hr
          obtain ⟨o1, o2⟩ := mapO_spec _ _ _ hos
          have g5' : (p.live.all fun t => Nat.ble t 65000) = true := by
            rw [List.all_eq_true] at g5 ⊢
            intro t ht
            have := Nat.le_of_ble_eq_true (g5 t ht)
            exact Nat.ble_eq_true_of_le (by omega)
          obtain ⟨q1, q2⟩ := mk_get p.live rs r1 g4 g5'
          obtain ⟨q3, q4⟩ := mk_get nws os (by omega) g3 g6
          refine hk.state fun κ φ w a F => ?_
          obtain ⟨φ1, F1, K1⟩ := n1 κ φ w a F
          obtain ⟨κ2, φ2, F2, R2, K2⟩ := F1.keep (s' := ({ s1 with regs := T.mk (zipT p.live rs), objs := T.mk (zipT nws os) } : ESt).den) g1 g2 g3 rfl (fun t => by
            by_cases ht : t ∈ p.live
            · right
              obtain ⟨k, hk⟩ := List.mem_iff_getElem?.1 ht
              have hlt := (List.getElem?_eq_some_iff.1 hk).1
              have hlt2 : k < rs.length := by omega
              have hrs : rs[k]? = some rs[k] := by simp [hlt2]
              have e : regOf (T.mk (zipT p.live rs)) t = rs[k] := by unfold regOf; rw [q1 k t hk, hrs]
              show RV.ren (renOf olds nws) 6 (regOf s1.regs t) = some (regOf (T.mk (zipT p.live rs)) t)
              rw [e]; exact r2 k t _ hk hrs
            · left
              show regOf (T.mk (zipT p.live rs)) t = .bot
              unfold regOf; rw [q2 t ht]) (fun k i j hi hj => by
            have hlt := (List.getElem?_eq_some_iff.1 hi).1
            have hlt2 : k < os.length := by omega
            have hq : os[k]? = some os[k] := by simp [hlt2]
            have := o2 k i _ hi hq
            cases e : s1.objs.get i with
            | none => simp only [e] at this; cases this
            | some pp => simp only [e] at this; exact ⟨pp, _, e, this, by show (T.mk (zipT nws os)).get j = _; rw [q3 k j hj, hq]⟩) (fun j hj => q4 j hj)
          refine ⟨κ2, φ2, F2, R2, (K1.m st.m).trans (K2 st.m fun i hi => ?_)⟩
          have hi' : i < s1.m := by omega
          refine renOf_of (k := i) g2 ?_ ?_
          · rw [← ho, List.getElem?_append_left (by simpa using hi')]; simp [hi']
          · rw [← hw, List.getElem?_append_left (by simpa using hi')]; simp [hi']

end Go.Am

/-
  The abstract machine: a function's contract out of a run of its body.
-/
namespace Go.Am
variable {P : Program}

def resVal (E : Env) (R : Nat → RV) (O : Tab) : ResultVar → Option RV
  | .tmp t => some (R t)
  | .cell a ty => match exLoad E O ty (R a) with
    | some res => bif res.upd.isEmpty && res.conds.isEmpty then some res.val else none
    | none => none

def one (vs : List RV) : RV :=
  match vs with
  | [v] => v
  | _ => .tup vs

/-- What a function gives, and its objects, numbered from the caller's on. 'frz': its arrays are given as data. -/
def finish (E : Env) (frz : Bool) (m : Nat) (rs : List ResultVar) (R : Nat → RV) (O : Tab) : Option (RV × List PObj × List Bool) :=
  match mapO (resVal E R O) rs with
  | none => none
  | some vs => match (bif frz then prepAll O vs else some (vs, [], [])) with
    | none => none
    | some (vs1, u, c) =>
      let r := one vs1
      let ps := List.range m ++ (reach (updO O u) 64 (r.refs 6 ++ (List.range m).flatMap fun i => objRefs (updO O u i)) []).filter (fun i => Nat.ble m i)
      bif nodupB ps then
        match r.ren (fun i => idx i ps 0) 6, mapO (fun i => match updO O u i with | some p => p.ren (fun i => idx i ps 0) | none => none) ps with
        | some r', some os => some (r', os, c)
        | _, _ => none
      else none

theorem resVal_ok {κ : Kap} {φ : Phi} {w : World} {s : SSt} {a : Act} (F : FRel κ φ w s a) {x : ResultVar} {v : RV} (h : resVal (Env.of P) s.R s.O x = some v) :
    ∃ u, ((match x with
      | .tmp t => pure (a.tmps.getD t undef)
      | .cell b t => do loadVar t (← asAddr (a.tmps.getD b undef))) : Sem Value).run P w = .ok u w ∧ RVR κ φ s.O w.heap v u := by
  cases x with
  | tmp t => simp [resVal] at h; subst h; exact ⟨_, rfl, F.regs t⟩
  | cell b t =>
    simp only [resVal] at h
    cases hx : exLoad (Env.of P) s.O t (s.R b) with
    | none => rw [hx] at h; simp at h
    | some res =>
      rw [hx] at h; simp only at h
      cases hg : (res.upd.isEmpty && res.conds.isEmpty) with
      | false => rw [hg] at h; simp at h
      | true =>
        rw [hg] at h; simp only [cond_true, Option.some.injEq] at h; subst h
        simp only [Bool.and_eq_true, List.isEmpty_iff] at hg
        obtain ⟨_, u, h1, h2⟩ := load_okP F hx (by rw [hg.2]; simp) (F.regs b)
        refine ⟨u, ?_, h2⟩
        have hp : ∃ ad, a.tmps.getD b undef = .pointer (some ad) := by
          have r := F.regs b
          unfold exLoad at hx
          cases hz : (Env.of P).size t with
          | none => rw [hz] at hx; simp at hx
          | some z =>
            rw [hz] at hx
            generalize a.tmps.getD b undef = v at r
            cases hR : s.R b <;> rw [hR] at hx r <;> (try simp only at hx) <;> (try (simp at hx; done)) <;> (cases r; exact ⟨_, rfl⟩)
        obtain ⟨ad, hp⟩ := hp
        show (do loadVar t (← asAddr (a.tmps.getD b undef)) : Sem Value).run P w = .ok u w
        rw [hp] at h1 ⊢
        simpa [Instr.loadAt, Instr.sureAddr, asAddr] using h1

def resG (tmps : Array Value) (x : ResultVar) : Sem Value :=
  match x with
  | .tmp t => pure (tmps.getD t undef)
  | .cell a t => do loadVar t (← asAddr (tmps.getD a undef))

theorem results_ok {κ : Kap} {φ : Phi} {w : World} {s : SSt} {a : Act} (F : FRel κ φ w s a) (g : ResultVar → Sem Value) (hg1 : ∀ t, g (.tmp t) = pure (a.tmps.getD t undef))
    (hg2 : ∀ b t, g (.cell b t) = (do loadVar t (← asAddr (a.tmps.getD b undef)))) : ∀ (rs : List ResultVar) (vs : List RV), mapO (resVal (Env.of P) s.R s.O) rs = some vs →
    ∃ us : List Value, (rs.mapM g).run P w = .ok us w ∧ us.length = vs.length ∧ ∀ (i : Nat) (x : RV) (v : Value), vs[i]? = some x → us[i]? = some v → RVR κ φ s.O w.heap x v
  | [], vs, h => by simp [mapO] at h; subst h; exact ⟨[], rfl, rfl, by simp⟩
  | x :: rs, vs, h => by
    simp only [mapO] at h
    cases h1 : resVal (Env.of P) s.R s.O x with
    | none => rw [h1] at h; simp at h
    | some v =>
      cases h2 : mapO (resVal (Env.of P) s.R s.O) rs with
      | none => rw [h1, h2] at h; simp at h
      | some q =>
        rw [h1, h2] at h; simp at h; subst h
        obtain ⟨u, e1, e2⟩ := resVal_ok F h1
        have e1' : (g x).run P w = .ok u w := by
          cases x with
          | tmp t => rw [hg1]; exact e1
          | cell b t => rw [hg2]; exact e1
        obtain ⟨us, g1, g2, g3⟩ := results_ok F g hg1 hg2 rs q h2
        refine ⟨u :: us, ?_, by simp [g2], fun i y w' hy hw => ?_⟩
        · simp [List.mapM_cons, e1', g1]
        · cases i with
          | zero => simp at hy hw; subst hy; subst hw; exact e2
          | succ i => exact g3 i y w' (by simpa using hy) (by simpa using hw)

theorem one_ok {κ : Kap} {φ : Phi} {O : Tab} {h : Heap} {vs : List RV} {us : List Value} (hl : us.length = vs.length) (hr : ∀ (i : Nat) (x : RV) (v : Value), vs[i]? = some x → us[i]? = some v → RVR κ φ O h x v) :
    RVR κ φ O h (one vs) (if hh : us.toArray.size = 1 then us.toArray[0] else .tuple us.toArray) := by
  cases vs with
  | nil =>
    have : us = [] := List.eq_nil_of_length_eq_zero (by simpa using hl)
    subst this
    simp only [one]; exact .tup rfl (by simp)
  | cons v vs =>
    cases us with
    | nil => simp at hl
    | cons u us =>
      cases vs with
      | nil =>
        have : us = [] := List.eq_nil_of_length_eq_zero (by simpa using hl)
        subst this
        simp only [one]; exact hr 0 v u rfl rfl
      | cons v2 vs =>
        have hne : ¬ (u :: us).toArray.size = 1 := by simp at hl ⊢; intro e; subst e; simp at hl
        rw [dif_neg hne]
        show RVR κ φ O h (.tup (v :: v2 :: vs)) _
        exact .tup (by simpa using hl) (fun i x v hx hv => hr i x v hx (by simpa using hv))

theorem calls_of_body {f : FuncId} {fn : Func} {c : Code} {args : Array Value} {w : World} {R : Ending → World → Prop}
    (hf : P.funcs[f]? = some fn) (hb : fn.body = some c)
    (h : ∀ (b : Frame) (cs : List Frame), ∃ e a' w', (e = .normal ∨ e = .ret) ∧ (a'.defers = [] ∧ ∃ v, (results fn a'.tmps).run P w' = .ok v w' ∧ R (.returned v) w') ∧
      Arrives P (lone (b.at { tmps := args ++ Array.replicate (fn.ntmps - args.size) undef, defers := [] } [.code c]) cs w) b [] cs e a' w') : Calls P f args w R := by
  intro cs
  let b : Frame := { (default : Frame) with fn := f, kind := .normal }
  have henter : Frame.enter P f args .normal = b.at { tmps := args ++ Array.replicate (fn.ntmps - args.size) undef, defers := [] } [.code c] := by
    simp [Frame.enter, Frame.at, hf, hb, b]
  obtain ⟨e, a', w', he, ⟨hd, v, hr, hR⟩, harr⟩ := h b cs
  rw [← henter] at harr
  rcases he with rfl | rfl
  · exact ⟨.returned v, w', _, hR, Steps.trans harr (.one step_end), rfl, rfl, hd, rfl, fn, hf, hr⟩
  · obtain ⟨todo, hs⟩ := harr
    exact ⟨.returned v, w', _, hR, hs, rfl, rfl, hd, rfl, fn, hf, hr⟩

/-- A function's contract, out of a run of its body. -/
theorem C_of_WK {f : FuncId} {fn : Func} {body : Code} {args : List RV} {objs : List PObj} {frz : Bool} {Q : RV → List PObj → Prop} (hf : P.funcs[f]? = some fn) (hb : fn.body = some body) (hn : args.length ≤ fn.ntmps)
    (h : WK P objs.length [.code body] { n := fn.ntmps, R := fun t => (args[t]?).getD .bot, O := tabOf objs }
      (fun s => ∃ r objs' c, finish (Env.of P) frz objs.length fn.results.toList s.R s.O = some (r, objs', c) ∧ (∀ b ∈ c, b = true) ∧ Q r objs')) : C P f args objs Q := by
  intro κ φ w vs h1 h2 h3 h4
  refine calls_of_body hf hb ?_
  have F : FRel κ φ w { n := fn.ntmps, R := fun t => (args[t]?).getD .bot, O := tabOf objs } { tmps := vs ++ Array.replicate (fn.ntmps - vs.size) undef, defers := [] } := by
    refine ⟨fun t => ?_, h1, h2, by simp; omega, rfl⟩
    by_cases ht : t < args.length
    · have e1 : args[t]? = some args[t] := by simp [ht]
      have e2 : vs[t]? = some vs[t] := by simp [show t < vs.size by omega]
      have e3 : (vs ++ Array.replicate (fn.ntmps - vs.size) undef).getD t undef = vs[t] := by
        rw [Array.getD_eq_getD_getElem?, Array.getElem?_append_left (by omega), e2]; rfl
      simp only [e1, Option.getD_some, e3]
      exact h4 t _ _ e1 e2
    · have e1 : args[t]? = none := by simp; omega
      simp only [e1, Option.getD_none]; exact .bot _
  intro b cs
  obtain ⟨e, a', w', κ', φ', s', he, ⟨r, objs', c, hfin, hcs, hQ⟩, F', R', K', harr⟩ := h κ φ w _ F b cs
  refine ⟨e, a', w', he, ⟨F'.df, ?_⟩, harr⟩
  unfold finish at hfin
  cases hres : mapO (resVal (Env.of P) s'.R s'.O) fn.results.toList with
  | none => rw [hres] at hfin; simp at hfin
  | some vs0 =>
    rw [hres] at hfin; simp only at hfin
    have hrun : ∃ us : List Value, (results fn a'.tmps).run P w' = .ok (if hh : us.toArray.size = 1 then us.toArray[0] else .tuple us.toArray) w' ∧ us.length = vs0.length ∧
        ∀ (i : Nat) (x : RV) (v : Value), vs0[i]? = some x → us[i]? = some v → RVR κ' φ' s'.O w'.heap x v := by
      have hdef : results fn a'.tmps = (do
          let vs ← fn.results.mapM (resG a'.tmps)
          pure (if h : vs.size = 1 then vs[0] else .tuple vs)) := by
        unfold results resG
        rfl
      obtain ⟨us, u1, u2, u3⟩ := results_ok F' (resG a'.tmps) (fun _ => rfl) (fun _ _ => rfl) _ vs0 hres
      refine ⟨us, ?_, u2, u3⟩
      rw [hdef]
      simp only [Sem.run_bind]
      rw [Array.mapM_eq_mapM_toList]
      simp only [Sem.run_map]
      rw [u1]; rfl
    obtain ⟨us, hrun, u2, u3⟩ := hrun
    cases hp : (bif frz then prepAll s'.O vs0 else some (vs0, [], [])) with
    | none => rw [hp] at hfin; simp at hfin
    | some p3 =>
      obtain ⟨vs1, u, cc⟩ := p3
      rw [hp] at hfin; simp only at hfin
      generalize hps : List.range objs.length ++ (reach (updO s'.O u) 64 ((one vs1).refs 6 ++ (List.range objs.length).flatMap fun i => objRefs (updO s'.O u i)) []).filter (fun i => Nat.ble objs.length i) = ps at hfin
      cases hnd : nodupB ps with
      | false => rw [hnd] at hfin; simp at hfin
      | true =>
        rw [hnd] at hfin; simp only [cond_true] at hfin
        cases hr1 : (one vs1).ren (fun i => idx i ps 0) 6 with
        | none => rw [hr1] at hfin; simp at hfin
        | some r' =>
          cases ho1 : mapO (fun i => match updO s'.O u i with | some p => p.ren (fun i => idx i ps 0) | none => none) ps with
          | none => rw [hr1, ho1] at hfin; simp at hfin
          | some os =>
            rw [hr1, ho1] at hfin; simp only [Option.some.injEq, Prod.mk.injEq] at hfin
            obtain ⟨rfl, rfl, rfl⟩ := hfin
            have pre : ∃ κ1, FRel κ1 φ' w' { s' with O := updO s'.O u } a' ∧ Mono κ' φ' s'.O w'.heap κ1 φ' (updO s'.O u) w'.heap ∧ Fr κ' w' κ1 w' ∧ vs1.length = vs0.length ∧
                ∀ (i : Nat) (x : RV) (v : Value), vs1[i]? = some x → us[i]? = some v → RVR κ1 φ' (updO s'.O u) w'.heap x v := by
              cases frz with
              | true =>
                simp only [cond_true] at hp
                obtain ⟨κ1, q1, q2, q3, _, q5, q6⟩ := prepAll_ok F' (Frzd.refl _) hp hcs (vs := us) u2 u3
                exact ⟨κ1, q1, q2, q3, q5, q6⟩
              | false =>
                simp only [cond_false, Option.some.injEq, Prod.mk.injEq] at hp
                obtain ⟨rfl, rfl, rfl⟩ := hp
                exact ⟨κ', F', Mono.refl _ _ _ _, Fr.refl _ _, rfl, u3⟩
            obtain ⟨κ1, F1, M1, R1, l1, hv1⟩ := pre
            have hone := one_ok (us := us) (vs := vs1) (by omega) hv1
            obtain ⟨o1, o2⟩ := mapO_spec _ ps os ho1
            -- the objects, numbered from the caller's on
            let κ2 : Kap := fun b => match κ1 b with
              | .imm => .imm
              | .own i => match idx i ps 0 with | some j => .own j | none => .oth
              | .oth => .oth
            let φ2 : Phi := fun j => match ps[j]? with | some i => φ' i | none => .un
            have idxps : ∀ (i j : Nat), idx i ps 0 = some j → ps[j]? = some i := fun i j h => by have := (idx_spec i ps 0 j h).2; simpa using this
            have psidx : ∀ (i j : Nat), ps[j]? = some i → idx i ps 0 = some j := fun i j h => by
              obtain ⟨k, hk⟩ := idx_mem i ps 0 (List.mem_iff_getElem?.2 ⟨j, h⟩)
              rw [hk, nodupB_spec ps hnd k j i (idxps i k hk) h]
            have himm : ∀ b, κ1 b = .imm → κ2 b = .imm := fun b hb => by simp only [κ2, hb]
            have hφ2 : ∀ (i j : Nat), idx i ps 0 = some j → φ' i ≠ .un → φ2 j = φ' i := fun i j h _ => by simp only [φ2, idxps i j h]
            have objAt : ∀ (j i : Nat), ps[j]? = some i → ∃ p q, updO s'.O u i = some p ∧ p.ren (fun i => idx i ps 0) = some q ∧ os[j]? = some q := by
              intro j i h
              have hlt := (List.getElem?_eq_some_iff.1 h).1
              have hlt2 : j < os.length := by omega
              have hq : os[j]? = some os[j] := by simp [hlt2]
              have := o2 j i _ h hq
              cases e : updO s'.O u i with
              | none => simp only [e] at this; cases this
              | some p => simp only [e] at this; exact ⟨p, _, rfl, this, hq⟩
            have hlen2 : ∀ (i j n : Nat), idx i ps 0 = some j → φ' i ≠ .un → PObj.len? (tabOf os j) = some n → PObj.len? (updO s'.O u i) = some n := by
              intro i j n h _ hn
              obtain ⟨p, q, e1, e2, e3⟩ := objAt j i (idxps i j h)
              rw [e1, ← ren_len e2]; simp only [tabOf, e3] at hn; exact hn
            have first : ∀ i, i < objs.length → ps[i]? = some i := fun i hi => by
              rw [← hps, List.getElem?_append_left (by simpa using hi)]; simp [hi]
            refine ⟨_, hrun, _, r', os, κ2, φ2, rfl, hQ, RVR.ren (ρ := fun i => idx i ps 0) himm hφ2 hlen2 6 _ _ _ hr1 hone, fun j => ?_, fun b hb => F1.bnd b (fun e => by simp only [κ2, e] at hb; exact hb rfl), ?_,
              R'.trans (R1.trans ⟨Nat.le_refl _, fun b hb => ⟨himm b hb, rfl⟩, fun b _ hb => ⟨by simp only [κ2, hb], rfl⟩, fun _ c _ fz hc => ⟨c, fz, hc, rfl⟩, rfl, rfl⟩), ⟨fun i hi => ?_, fun i n hi hn => ?_⟩⟩
            · cases hj : ps[j]? with
              | none =>
                have : os[j]? = none := by rw [List.getElem?_eq_none_iff] at hj ⊢; omega
                simp only [tabOf, this]
                show φ2 j = .un
                simp only [φ2, hj]
              | some i =>
                obtain ⟨p, q, e1, e2, e3⟩ := objAt j i hj
                simp only [tabOf, e3]
                have ho := F1.objs i
                simp only [e1] at ho
                exact OR.ren (ρ := fun i => idx i ps 0) himm hφ2 hlen2 (psidx i j hj) (fun b hb => by simp only [κ2, hb, psidx i j hj]) e2 ho
            · rw [o1, ← hps]; simp
            · -- the first objects lie where they lay
              have hlt : i < objs.length := by
                rcases Nat.lt_or_ge i objs.length with h | h
                · exact h
                · exfalso; apply hi
                  have := h1 i
                  have e : tabOf objs i = none := by simp only [tabOf]; exact List.getElem?_eq_none h
                  rw [e] at this; exact this
              simp only [φ2, first i hlt]
              exact K'.phi i hlt hi
            · have hlt : i < objs.length := by
                rcases Nat.lt_or_ge i objs.length with h | h
                · exact h
                · exfalso; apply hi
                  have := h1 i
                  have e : tabOf objs i = none := by simp only [tabOf]; exact List.getElem?_eq_none h
                  rw [e] at this; exact this
              have h2' : φ' i ≠ .un := by rw [K'.phi i hlt hi]; exact hi
              have := hlen2 i i n (psidx i i (first i hlt)) h2' hn
              exact K'.len i n hlt hi (M1.len i n h2' this)

end Go.Am

/-
  The abstract machine: what a proof about a function is made of.
-/
namespace Go.Am
variable {P : Program}

def T.ofL {α : Type} : Nat → List α → T α
  | _, [] => .nil
  | k, x :: r => (T.ofL (k + 1) r).set k (some x)

theorem T.ofL_get {α : Type} : ∀ (l : List α) (k i : Nat), k + l.length ≤ 65000 → (T.ofL k l).get i = if i < k then none else l[i - k]?
  | [], k, i, _ => by simp [T.ofL, T.get]
  | x :: r, k, i, h => by
    simp only [List.length_cons] at h
    simp only [T.ofL]
    by_cases e : i = k
    · subst e; rw [T.get_set_same _ (by omega), if_neg (by omega)]; simp
    · rw [T.get_set_ne _ e, T.ofL_get r (k + 1) i (by omega)]
      by_cases h1 : i < k
      · rw [if_pos (by omega), if_pos h1]
      · rw [if_neg (by omega), if_neg h1, show i - k = (i - (k + 1)) + 1 by omega]; rfl

/-- The state in which a function begins. -/
def ini (n : Nat) (args : List RV) (objs : List PObj) : ESt := { n := n, m := objs.length, regs := T.ofL 0 args, objs := T.ofL 0 objs }

theorem C_of_run {f : FuncId} {fn : Func} {body : Code} {args : List RV} {objs : List PObj} (frz : Bool) {Q : RV → List PObj → Prop} (hf : P.funcs[f]? = some fn) (hb : fn.body = some body)
    (hn : (Nat.ble args.length fn.ntmps && Nat.ble args.length 60000 && Nat.ble objs.length 60) = true)
    (h : WK P objs.length [.code body] (ini fn.ntmps args objs).den
      (fun s => ∃ r objs' c, finish (Env.of P) frz objs.length fn.results.toList s.R s.O = some (r, objs', c) ∧ (∀ b ∈ c, b = true) ∧ Q r objs')) : C P f args objs Q := by
  simp only [Bool.and_eq_true] at hn
  have h1 := Nat.le_of_ble_eq_true hn.1.1
  have h2 := Nat.le_of_ble_eq_true hn.1.2
  have h3 := Nat.le_of_ble_eq_true hn.2
  refine C_of_WK (frz := frz) hf hb h1 ?_
  have e : (ini fn.ntmps args objs).den = { n := fn.ntmps, R := fun t => (args[t]?).getD .bot, O := tabOf objs } := by
    simp only [ini, ESt.den]
    congr 1
    · funext t
      unfold regOf
      rw [T.ofL_get _ _ _ (by omega)]
      simp only [Nat.not_lt_zero, if_false, Nat.sub_zero]
      cases args[t]? <;> rfl
    · funext i
      rw [T.ofL_get _ _ _ (by omega)]
      simp [tabOf]
  rw [← e]; exact h

/-- The stacks at the heads of a code's loops, in the order in which they stand. -/
def stacks : Code → List It → List (List It)
  | .seq x y, k => stacks x (.code y :: k) ++ stacks y k
  | .cond _ x y, k => stacks x k ++ stacks y k
  | .block id b, k => stacks b (.blk id :: k)
  | .loop b, k => (.code b :: .lp b :: k) :: stacks b (.lp b :: k)
  | _, _ => []

def stackAt (body : Code) (i : Nat) : List It := (stacks body []).getD i []

def Obl : List Bool → Prop
  | [] => True
  | c :: r => c = true ∧ Obl r
def ObE : List (RV × RV) → Prop
  | [] => True
  | (x, y) :: r => RVle x y ∧ ObE r

theorem Obl.all : ∀ {l : List Bool}, Obl l → ∀ c ∈ l, c = true
  | [], _, c, h => by simp at h
  | x :: r, ⟨h1, h2⟩, c, h => by
    rcases List.mem_cons.1 h with rfl | h
    · exact h1
    · exact Obl.all h2 c h
theorem ObE.all : ∀ {l : List (RV × RV)}, ObE l → ∀ e ∈ l, RVle e.1 e.2
  | [], _, e, h => by simp at h
  | (x, y) :: r, ⟨h1, h2⟩, e, h => by
    rcases List.mem_cons.1 h with rfl | h
    · exact h1
    · exact ObE.all h2 e h

theorem le_bool {a b : Bool} (h : a = b) : RVle (.d (.bool a)) (.d (.bool b)) := .of_eq (by rw [h])

/-- A run to a loop's head, or to the same loop's next round; what is kept there. -/
def runSeg (cf : Cfg) (n l : Nat) (ov : Ov) (p : Post) (k : List It) (st : ESt) : Option (List It × ESt × List Bool × List (RV × RV)) :=
  match drive cf ov n l k { st := st, cs := [], es := [] } with
  | some (k', ac) => match k' with
    | [] => none
    | _ :: _ => match doPost p ac.st with
      | some st' => some (k', st', ac.cs, ac.es)
      | none => none
  | none => none

/-- A run to the function's end: what it gives. -/
def runEnd (cf : Cfg) (frz : Bool) (rs : List ResultVar) (n l : Nat) (ov : Ov) (k : List It) (st : ESt) : Option (RV × List PObj × List Bool × List (RV × RV)) :=
  match drive cf ov n l k { st := st, cs := [], es := [] } with
  | some (k', ac) => match k' with
    | [] => match finish cf.E frz ac.st.m rs (regOf ac.st.regs) ac.st.objs.get with
      | some (r, o, c) => some (r, o, ac.cs ++ c, ac.es)
      | none => none
    | _ :: _ => none
  | none => none

theorem drive_m {cf : Cfg} {ov : Ov} : ∀ (n l : Nat) (k k' : List It) (ac ac' : Acc), drive cf ov n l k ac = some (k', ac') → ac'.st.m = ac.st.m
  | 0, _, _, _, _, _, h => by simp [drive] at h
  | n + 1, l, k, k', ac, ac', h => by
    have base : ∀ {k k' : List It} {a a' : Acc}, some (k, a) = some (k', a') → a'.st.m = a.st.m := by
      intro k k' a a' h
      injection h with h; injection h with h1 h2; subst h2; rfl
    unfold drive at h
    split at h
    · exact base h
    · exact drive_m n l _ _ _ _ h
    · split at h
      · exact base h
      · exact drive_m n _ _ _ _ _ h
    · split at h
      · exact drive_m n l _ _ _ _ h
      · exact drive_m n l _ _ _ _ h
      · split at h
        · rename_i a1 hs
          have := (stepRegion_cs hs).2.2.1
          rw [drive_m n l _ _ _ _ h, this]
        · simp at h
      · split at h
        · split at h <;> exact drive_m n l _ _ _ _ h
        · simp at h
      · exact drive_m n l _ _ _ _ h
      · split at h
        · exact base h
        · exact drive_m n _ _ _ _ _ h
      · split at h
        · exact drive_m n l _ _ _ _ h
        · simp at h
      · exact base h
      · simp at h

theorem doPost_m {p : Post} {st st' : ESt} (h : doPost p st = some st') : st'.m = st.m := by
  unfold doPost at h
  cases h1 : doNils p.nils st with
  | none => rw [h1] at h; simp at h
  | some s1 =>
    rw [h1] at h; simp only at h
    have := (doNils_ok _ h1).2.1
    unfold doKeep at h
    simp only at h
    cases hg : (Nat.beq (List.range s1.m ++ p.nws).length (List.range s1.m ++ p.olds).length && nodupB (List.range s1.m ++ p.olds) && nodupB (List.range s1.m ++ p.nws) && nodupB p.live && (p.live.all fun t => Nat.ble t 8000) && ((List.range s1.m ++ p.nws).all fun t => Nat.ble t 65000)) with
    | false => rw [hg] at h; simp at h
    | true =>
      rw [hg] at h; simp only [cond_true] at h
      split at h
      · injection h with h; subst h; exact this
      · simp at h

structure Ok (P : Program) (cf : Cfg) : Prop where
  cf : CfOk P cf
  mix : P.follows .mixedOrders = true

theorem WK.seg {cf : Cfg} (hok : Ok P cf) {m : Nat} {st st' : ESt} {k k' : List It} {Q : SSt → Prop} (n l : Nat) (ov : Ov) (p : Post) (cs : List Bool) (es : List (RV × RV)) (hm : st.m = m)
    (h : runSeg cf n l ov p k st = some (k', st', cs, es)) (hc : Obl cs) (he : ObE es) (hk : WK P m k' st'.den Q) : WK P m k st.den Q := by
  subst hm
  unfold runSeg at h
  split at h
  · rename_i k1 ac hd
    split at h
    · simp at h
    · rename_i x k1
      cases hp : doPost p ac.st with
      | none => rw [hp] at h; simp at h
      | some s1 =>
        rw [hp] at h; simp only [Option.some.injEq, Prod.mk.injEq] at h
        obtain ⟨rfl, rfl, rfl, rfl⟩ := h
        have hm1 := drive_m _ _ _ _ _ _ hd
        refine drive_wk hok.cf hok.mix n l k _ { st := st, cs := [], es := [] } ac hd hc.all he.all (fun e => by simp at e) (fun _ => ?_)
        rw [← hm1]
        refine doPost_wk hp ?_
        rw [hm1]; exact hk
  · simp at h

theorem WK.fin {cf : Cfg} (hok : Ok P cf) {m : Nat} {st : ESt} {k : List It} {rs : List ResultVar} {frz : Bool} {Q : RV → List PObj → Prop} (n l : Nat) (ov : Ov) {r : RV} {o : List PObj} (cs : List Bool) (es : List (RV × RV)) (hm : st.m = m)
    (h : runEnd cf frz rs n l ov k st = some (r, o, cs, es)) (hc : Obl cs) (he : ObE es) (hQ : Q r o) :
    WK P m k st.den (fun s => ∃ r objs' c, finish (Env.of P) frz m rs s.R s.O = some (r, objs', c) ∧ (∀ b ∈ c, b = true) ∧ Q r objs') := by
  subst hm
  unfold runEnd at h
  split at h
  · rename_i k1 ac hd
    split at h
    · rw [hok.cf.E] at h
      cases hf : finish (Env.of P) frz ac.st.m rs (regOf ac.st.regs) ac.st.objs.get with
      | none => rw [hf] at h; simp at h
      | some p =>
        obtain ⟨r', o', c'⟩ := p
        rw [hf] at h; simp only [Option.some.injEq, Prod.mk.injEq] at h
        obtain ⟨rfl, rfl, rfl, rfl⟩ := h
        have hm1 := drive_m _ _ _ _ _ _ hd
        refine drive_wk hok.cf hok.mix n l k _ { st := st, cs := [], es := [] } ac hd (fun c hcc => hc.all c (by simp [hcc])) he.all (fun _ => ?_) (fun e => by simp at e)
        rw [← hm1]
        exact ⟨r', o', c', hf, fun b hb => hc.all b (by simp [hb]), hQ⟩
    · simp at h
  · simp at h

/-- A loop, or whatever comes again: by a measure. -/
theorem WK.rec' {m : Nat} {k : List It} {Q : SSt → Prop} {σ : Type} (S : σ → ESt) (inv : σ → Prop) (μ : σ → Nat)
    (round : ∀ y, inv y → (∀ z, inv z → μ z < μ y → WK P m k (S z).den Q) → WK P m k (S y).den Q) : ∀ y, inv y → WK P m k (S y).den Q := by
  have key : ∀ n y, μ y = n → inv y → WK P m k (S y).den Q := by
    intro n
    induction n using Nat.strongRecOn with
    | _ n ih => exact fun y hn hy => round y hy fun z hz hlt => ih (μ z) (hn ▸ hlt) z rfl hz
  exact fun y hy => key _ y rfl hy

end Go.Am

/-
  The abstract machine: contracts that were walked otherwise.
-/
namespace Go.Am
open Go.RowKit
variable {P : Program}

def DV.one : DV → Option Value
  | .bool b => some (.bool b)
  | .int k n => some (.int k n)
  | .str s => some (.string ⟨s.toArray⟩)
  | .nilp => some (.pointer none)
  | .nilf => some .nilFunc
  | .nili => some .nilIface
  | _ => none
def DV.ones : List DV → Option (List Value)
  | [] => some []
  | x :: r => match x.one, DV.ones r with
    | some v, some l => some (v :: l)
    | _, _ => none
def DV.flat : DV → Option Value
  | .agg cs => match DV.ones cs with
    | some l => some (.agg l.toArray)
    | none => none
  | .tup cs => match DV.ones cs with
    | some l => some (.tuple l.toArray)
    | none => none
  | x => x.one

theorem DR.one {κ : Kap} {h : Heap} {x : DV} {v u : Value} (r : DR κ h x v) (e : x.one = some u) : v = u := by
  cases r <;> simp_all [DV.one]
theorem DR.of_one {κ : Kap} {h : Heap} {x : DV} {u : Value} (e : x.one = some u) : DR κ h x u := by
  cases x <;> simp [DV.one] at e <;> subst e <;> constructor
theorem DV.one_scal {x : DV} {u : Value} (e : x.one = some u) : x.scal = true := by cases x <;> first | rfl | (simp [DV.one] at e)

theorem DV.ones_spec : ∀ (cs : List DV) (us : List Value), DV.ones cs = some us → us.length = cs.length ∧ (∀ x ∈ cs, ∃ u, x.one = some u) ∧ ∀ (i : Nat) (x : DV) (u : Value), cs[i]? = some x → us[i]? = some u → x.one = some u
  | [], us, h => by simp [DV.ones] at h; subst h; simp
  | x :: cs, us, h => by
    simp only [DV.ones] at h
    cases h1 : x.one with
    | none => rw [h1] at h; simp at h
    | some v =>
      cases h2 : DV.ones cs with
      | none => rw [h1, h2] at h; simp at h
      | some l =>
        rw [h1, h2] at h; simp at h; subst h
        obtain ⟨g1, g2, g3⟩ := DV.ones_spec cs l h2
        refine ⟨by simp [g1], fun y hy => ?_, fun i y u hy hu => ?_⟩
        · rcases List.mem_cons.1 hy with rfl | hy
          · exact ⟨v, h1⟩
          · exact g2 y hy
        · cases i with
          | zero => simp at hy hu; subst hy; subst hu; exact h1
          | succ i => exact g3 i y u (by simpa using hy) (by simpa using hu)

theorem DR.flat {κ : Kap} {h : Heap} {x : DV} {v u : Value} (r : DR κ h x v) (e : x.flat = some u) : v = u := by
  have key : ∀ {cs : List DV} {vs : Array Value} {l : List Value}, DV.ones cs = some l → vs.size = cs.length → (∀ (i : Nat) (x : DV) (v : Value), cs[i]? = some x → vs[i]? = some v → DR κ h x v) → vs = l.toArray := by
    intro cs vs l h1 h2 h3
    obtain ⟨g1, g2, g3⟩ := DV.ones_spec cs l h1
    apply Array.ext
    · simp; omega
    · intro i hi hi2
      simp at hi2
      have e1 : cs[i]? = some cs[i] := by simp [show i < cs.length by omega]
      have e2 : vs[i]? = some vs[i] := by simp [hi]
      have e3 : l[i]? = some l[i] := by simp [hi2]
      have := (h3 i _ _ e1 e2).one (g3 i _ _ e1 e3)
      simpa using this
  cases x with
  | agg cs =>
    simp only [DV.flat] at e
    cases h1 : DV.ones cs with
    | none => rw [h1] at e; simp at e
    | some l =>
      rw [h1] at e; simp at e; subst e
      cases r with
      | agg hl hs hr => rw [key h1 hl hr]
  | tup cs =>
    simp only [DV.flat] at e
    cases h1 : DV.ones cs with
    | none => rw [h1] at e; simp at e
    | some l =>
      rw [h1] at e; simp at e; subst e
      cases r with
      | tup hl hr => rw [key h1 hl hr]
  | _ => exact r.one e

theorem DR.of_flat {κ : Kap} {h : Heap} {x : DV} {u : Value} (e : x.flat = some u) : DR κ h x u := by
  cases x with
  | agg cs =>
    simp only [DV.flat] at e
    cases h1 : DV.ones cs with
    | none => rw [h1] at e; simp at e
    | some l =>
      rw [h1] at e; simp at e; subst e
      obtain ⟨g1, g2, g3⟩ := DV.ones_spec cs l h1
      exact .agg (by simpa using g1) (fun y hy => by obtain ⟨u, hu⟩ := g2 y hy; exact DV.one_scal hu) (fun i x v hx hv => DR.of_one (g3 i x v hx (by simpa using hv)))
  | tup cs =>
    simp only [DV.flat] at e
    cases h1 : DV.ones cs with
    | none => rw [h1] at e; simp at e
    | some l =>
      rw [h1] at e; simp at e; subst e
      obtain ⟨g1, g2, g3⟩ := DV.ones_spec cs l h1
      exact .tup (by simpa using g1) (fun i x v hx hv => DR.of_one (g3 i x v hx (by simpa using hv)))
  | _ => exact DR.of_one e

theorem tabNil (i : Nat) : tabOf [] i = none := by simp [tabOf]

/-- A contract of data out of a walk that turns no block that was there. -/
theorem C_of_calls {f : FuncId} {args : List DV} {d : DV}
    (h : ∀ (κ : Kap) (w : World) (vs : Array Value), (∀ b, κ b ≠ .oth → b < w.heap.size) → vs.size = args.length → (∀ (i : Nat) (x : DV) (v : Value), args[i]? = some x → vs[i]? = some v → DR κ w.heap x v) →
      Calls P f vs w fun e w' => ∃ v κ', e = .returned v ∧ DR κ' w'.heap d v ∧ (w.heap.size ≤ w'.heap.size ∧ w'.os = w.os ∧ w'.output = w.output) ∧ (∀ b, b < w.heap.size → w'.heap[b]? = w.heap[b]? ∧ κ' b = κ b) ∧ (∀ b, κ' b ≠ .oth → b < w'.heap.size)) :
    C P f (args.map .d) [] (fun r o => r = .d d ∧ o = []) := by
  intro κ φ w vs h1 h2 h3 h4
  refine (h κ w vs h2 (by simpa using h3) (fun i x v hx hv => ?_)).mono ?_
  · have := h4 i (.d x) v (by simp [hx]) hv
    cases this with
    | d hr => exact hr
  · rintro e w' ⟨v, κ', rfl, hd, hs, hb, hn⟩
    refine ⟨v, .d d, [], κ', φ, rfl, ⟨rfl, rfl⟩, .d hd, fun i => ?_, hn, Nat.le_refl _, ⟨hs.1, fun b hk => ?_, fun b hl hk => ?_, fun b c ty fz hc => ?_, hs.2.1, hs.2.2⟩, Kp.refl _ _⟩
    · have := h1 i
      rw [tabNil] at this ⊢
      exact this
    · have hl := h2 b (by rw [hk]; simp)
      exact ⟨(hb b hl).2.trans hk, (hb b hl).1⟩
    · exact ⟨(hb b hl).2.trans hk, (hb b hl).1⟩
    · have hl : b < w.heap.size := by
        rcases Nat.lt_or_ge b w.heap.size with h' | h'
        · exact h'
        · rw [Array.getElem?_eq_none h'] at hc; simp at hc
      exact ⟨c, fz, (hb b hl).1.trans hc, rfl⟩

/-- Plain data in, plain data out. -/
theorem C_flat {f : FuncId} {args : List DV} {us : List Value} {d : DV} {v : Value} (ha : mapO DV.flat args = some us) (hd : d.flat = some v)
    (h : ∀ w : World, Calls P f us.toArray w fun e w' => e = .returned v ∧ Below w.heap.size w w') : C P f (args.map .d) [] (fun r o => r = .d d ∧ o = []) := by
  obtain ⟨g1, g2⟩ := mapO_spec _ args us ha
  refine C_of_calls fun κ w vs hk hl hr => ?_
  have : vs = us.toArray := by
    apply Array.ext
    · simp; omega
    · intro i hi hi2
      simp at hi2
      have e1 : args[i]? = some args[i] := by simp [show i < args.length by omega]
      have e2 : vs[i]? = some vs[i] := by simp [hi]
      have e3 : us[i]? = some us[i] := by simp [hi2]
      simpa using (hr i _ _ e1 e2).flat (g2 i _ _ e1 e3)
  subst this
  refine (h w).mono ?_
  rintro e w' ⟨rfl, hB⟩
  exact ⟨v, κ, rfl, DR.of_flat hd, ⟨hB.size, hB.os, hB.output⟩, fun b hb => ⟨hB.block b hb, rfl⟩, fun b hb => Nat.lt_of_lt_of_le (hk b hb) hB.size⟩

/-- A new row of cells, as data. -/
def newImm (κ : Kap) (v : Value) : Kap := fun b => if v.ownBlock = some b then .imm else κ b

theorem newRow {κ : Kap} {w w' : World} {e : TypeId} {sz n : Nat} {v : Value} {xs : List Value} {els : List DV} (ho : w'.ownsRow w.heap.size e sz v n xs) (hn : n = els.length) (hz : ElsOk sz els)
    (hx : ∀ (i : Nat) (x : DV) (j : Nat) (y : DV) (u : Value), els[i]? = some x → x.cells[j]? = some y → xs[i * sz + j]? = some u → y.one = some u)
    (hk : ∀ b, κ b ≠ .oth → b < w.heap.size) (hs : w.heap.size ≤ w'.heap.size) :
    DR (newImm κ v) w'.heap (.lst sz els false) v ∧ (∀ b, b < w.heap.size → newImm κ v b = κ b) ∧ (∀ b, newImm κ v b ≠ .oth → b < w'.heap.size) := by
  obtain ⟨h1, h2⟩ := ho
  rcases h2 with ⟨rfl, h0⟩ | ⟨g, cap, cur, rfl, hg, hc, h3, _, h4, h5⟩
  · have : els = [] := List.eq_nil_of_length_eq_zero (by omega)
    subst this
    exact ⟨.lst0 (fun h => by cases h), fun b _ => by simp [newImm, Value.ownBlock], fun b hb => by simp [newImm, Value.ownBlock] at hb; exact Nat.lt_of_lt_of_le (hk b hb) hs⟩
  · subst hn
    have hlt : g < w'.heap.size := by
      rcases Nat.lt_or_ge g w'.heap.size with h' | h'
      · exact h'
      · rw [Array.getElem?_eq_none h'] at hc; simp at hc
    refine ⟨.lst (by simp [newImm, Value.ownBlock]) hc (fun h => by cases h) h3 (by omega) hz (fun i x j y u hi hj hu => ?_), fun b hb => ?_, fun b hb => ?_⟩
    · have hil := (List.getElem?_eq_some_iff.1 hi).1
      have hjl : j < sz := by
        have := (hz x (List.mem_of_getElem? hi)).1
        have := (List.getElem?_eq_some_iff.1 hj).1
        omega
      have hlt : i * sz + j < els.length * sz := by
        have : (i + 1) * sz ≤ els.length * sz := Nat.mul_le_mul_right _ hil
        rw [Nat.add_mul, Nat.one_mul] at this; omega
      refine DR.of_one (hx i x j y u hi hj ?_)
      rw [← h5, List.getElem?_take, if_pos hlt]
      simpa using hu
    · simp only [newImm, Value.ownBlock, Option.some.injEq]
      rw [if_neg (by omega)]
    · simp only [newImm, Value.ownBlock, Option.some.injEq] at hb
      by_cases e : g = b
      · subst e; exact hlt
      · rw [if_neg e] at hb; exact Nat.lt_of_lt_of_le (hk b hb) hs

end Go.Am

/-
  The abstract machine: tables of contracts; functions that are run where they are called.
-/
namespace Go.Am
variable {P : Program}

abbrev Ent := List RV → List PObj → Option (RV × List PObj × List Bool)

def findE : List (Nat × Ent) → Nat → Option Ent
  | [], _ => none
  | (i, g) :: r, f => bif Nat.beq i f then some g else findE r f

def konOf (l : List (Nat × Ent)) : Kon := fun f a o => match findE l f with
  | some g => g a o
  | none => none

def EntOk (P : Program) (f : Nat) (g : Ent) : Prop := ∀ a o r o' c, g a o = some (r, o', c) → (∀ b ∈ c, b = true) → C P f a o (fun r2 o2 => r2 = r ∧ o2 = o')

theorem findE_spec : ∀ (l : List (Nat × Ent)) (f : Nat) (g : Ent), findE l f = some g → (f, g) ∈ l
  | [], f, g, h => by simp [findE] at h
  | (i, g') :: r, f, g, h => by
    simp only [findE] at h
    cases hb : Nat.beq i f with
    | true => rw [hb] at h; simp at h; subst h; have := nbE hb; subst this; simp
    | false => rw [hb] at h; simp at h; simp [findE_spec r f g h]

inductive EntsOk (P : Program) : List (Nat × Ent) → Prop
  | nil : EntsOk P []
  | cons {f : Nat} {g : Ent} {l : List (Nat × Ent)} (h : EntOk P f g) (t : EntsOk P l) : EntsOk P ((f, g) :: l)

theorem EntsOk.mem {l : List (Nat × Ent)} (h : EntsOk P l) : ∀ f g, (f, g) ∈ l → EntOk P f g := by
  induction h with
  | nil => intro f g hm; simp at hm
  | cons h _ ih =>
    intro f g hm
    rcases List.mem_cons.1 hm with e | hm
    · injection e with e1 e2; subst e1; subst e2; exact h
    · exact ih f g hm

theorem konOf_ok {l : List (Nat × Ent)} (h : EntsOk P l) : KSound P (konOf l) := by
  intro f args objs r objs' c hk hc
  unfold konOf at hk
  cases hf : findE l f with
  | none => rw [hf] at hk; simp at hk
  | some g => rw [hf] at hk; exact h.mem f g (findE_spec l f g hf) args objs r objs' c hk hc

def e0 (g : Option (DV × List Bool)) : Ent := fun a o => match a, o with
  | [], [] => match g with
    | some (y, c) => some (.d y, [], c)
    | none => none
  | _, _ => none
def e1 (g : DV → Option (DV × List Bool)) : Ent := fun a o => match a, o with
  | [.d x], [] => match g x with
    | some (y, c) => some (.d y, [], c)
    | none => none
  | _, _ => none
def e2 (g : DV → DV → Option (DV × List Bool)) : Ent := fun a o => match a, o with
  | [.d x, .d x2], [] => match g x x2 with
    | some (y, c) => some (.d y, [], c)
    | none => none
  | _, _ => none

theorem e0_ok {f : Nat} {g : Option (DV × List Bool)} (h : ∀ y c, g = some (y, c) → (∀ b ∈ c, b = true) → C P f [] [] (fun r o => r = .d y ∧ o = [])) : EntOk P f (e0 g) := by
  intro a o r o' c hg hc
  unfold e0 at hg
  split at hg
  · cases hx : g with
    | none => rw [hx] at hg; simp at hg
    | some p =>
      obtain ⟨y, c'⟩ := p
      rw [hx] at hg; simp at hg
      obtain ⟨rfl, rfl, rfl⟩ := hg
      exact h y c' hx hc
  · simp at hg
theorem e1_ok {f : Nat} {g : DV → Option (DV × List Bool)} (h : ∀ x y c, g x = some (y, c) → (∀ b ∈ c, b = true) → C P f [.d x] [] (fun r o => r = .d y ∧ o = [])) : EntOk P f (e1 g) := by
  intro a o r o' c hg hc
  unfold e1 at hg
  split at hg
  · rename_i x
    cases hx : g x with
    | none => rw [hx] at hg; simp at hg
    | some p =>
      obtain ⟨y, c'⟩ := p
      rw [hx] at hg; simp at hg
      obtain ⟨rfl, rfl, rfl⟩ := hg
      exact h x y c' hx hc
  · simp at hg
theorem e2_ok {f : Nat} {g : DV → DV → Option (DV × List Bool)} (h : ∀ x x2 y c, g x x2 = some (y, c) → (∀ b ∈ c, b = true) → C P f [.d x, .d x2] [] (fun r o => r = .d y ∧ o = [])) : EntOk P f (e2 g) := by
  intro a o r o' c hg hc
  unfold e2 at hg
  split at hg
  · rename_i x x2
    cases hx : g x x2 with
    | none => rw [hx] at hg; simp at hg
    | some p =>
      obtain ⟨y, c'⟩ := p
      rw [hx] at hg; simp at hg
      obtain ⟨rfl, rfl, rfl⟩ := hg
      exact h x x2 y c' hx hc
  · simp at hg

/-- A function that is run where it is called: every loop of it, all the way. -/
def runK (P : Program) (cf : Cfg) (n l : Nat) : Kon := fun f args objs =>
  match P.funcs[f]? with
  | some fn => match fn.body with
    | some body => bif Nat.ble args.length fn.ntmps && Nat.ble args.length 60000 && Nat.ble objs.length 60 then
        match runEnd cf (!(cf.byref f)) fn.results.toList n l [] [.code body] (ini fn.ntmps args objs) with
        | some (r, o, c, es) => match es with
          | [] => some (r, o, c)
          | _ :: _ => none
        | none => none
      else none
    | none => none
  | none => none

def orK (a b : Kon) : Kon := fun f args objs => match a f args objs with
  | some x => some x
  | none => b f args objs

theorem orK_ok {a b : Kon} (ha : KSound P a) (hb : KSound P b) : KSound P (orK a b) := by
  intro f args objs r objs' c hk hc
  unfold orK at hk
  cases h : a f args objs with
  | some x => rw [h] at hk; simp only [Option.some.injEq] at hk; subst hk; exact ha _ _ _ _ _ _ h hc
  | none => rw [h] at hk; exact hb _ _ _ _ _ _ hk hc

theorem runK_ok {cf : Cfg} (hok : Ok P cf) (n l : Nat) : KSound P (runK P cf n l) := by
  intro f args objs r objs' c hk hc
  unfold runK at hk
  cases hf : P.funcs[f]? with
  | none => rw [hf] at hk; simp at hk
  | some fn =>
    rw [hf] at hk; simp only at hk
    cases hb : fn.body with
    | none => rw [hb] at hk; simp at hk
    | some body =>
      rw [hb] at hk; simp only at hk
      cases hg : (Nat.ble args.length fn.ntmps && Nat.ble args.length 60000 && Nat.ble objs.length 60) with
      | false => rw [hg] at hk; simp at hk
      | true =>
        rw [hg] at hk; simp only [cond_true] at hk
        split at hk
        · rename_i r1 o1 c1 es1 hr
          split at hk
          · simp only [Option.some.injEq, Prod.mk.injEq] at hk
            obtain ⟨rfl, rfl, rfl⟩ := hk
            refine C_of_run (!(cf.byref f)) hf hb hg ?_
            refine WK.fin hok n l [] c1 [] rfl hr ?_ trivial ⟨rfl, rfl⟩
            clear hr
            induction c1 with
            | nil => trivial
            | cons x r ih => exact ⟨hc x (by simp), ih (fun b hb => hc b (by simp [hb]))⟩
          · simp at hk
        · simp at hk

/-- Contracts, and behind them so many layers of functions that are run. -/
def layer (P : Program) (base : Kon) (byref callOk : Nat → Bool) (n l : Nat) : Nat → Kon
  | 0 => base
  | d + 1 => orK base (runK P { E := Env.of P, K := layer P base byref callOk n l d, byref := byref, callOk := callOk } n l)

end Go.Am
namespace Go.Am
variable {P : Program}

theorem layer_ok {base : Kon} {byref cok : Nat → Bool} {n l : Nat} (hm : P.follows .mixedOrders = true) (hb : KSound P base) (hc : ∀ f, cok f = true → callOk P f = true) : ∀ d, KSound P (layer P base byref cok n l d)
  | 0 => hb
  | d + 1 => orK_ok hb (runK_ok (cf := { E := Env.of P, K := layer P base byref cok n l d, byref := byref, callOk := cok }) ⟨⟨rfl, layer_ok hm hb hc d, hc⟩, hm⟩ n l)

/-- What a table of contracts says, with its conditions met. -/
theorem KSound.use {K : Kon} (hk : KSound P K) {f : Nat} {args : List RV} {objs : List PObj} {r : RV} {o : List PObj} (c : List Bool) (h : K f args objs = some (r, o, c)) (hc : c.all id = true) :
    C P f args objs (fun r2 o2 => r2 = r ∧ o2 = o) := hk f args objs r o c h (fun b hb => by have := List.all_eq_true.1 hc b hb; simpa using this)

end Go.Am

/-
  The abstract machine: the arguments of a law, read as data; a law's statement out of its contract.
-/
namespace Go.Am
open Go.RowKit Go.ChangeShapes Go.WideShapes Go.ChangeAt
variable {P : Program}

def isAggT (P : Program) (t : TypeId) : Bool := match P.underlying t with
  | some (.struct _) => true
  | some (.array _ _) => true
  | _ => false

def elOf (agg : Bool) (cs : List DV) : DV := bif agg then .agg cs else cs.headD .nilp

/-- The cells of a value of a type, as data. -/
inductive Ty (P : Program) : TypeId → List DV → Prop
  | bool {t : TypeId} (h : P.underlying t = some .bool) (b : Bool) : Ty P t [.bool b]
  | int {t : TypeId} {k : IntKind} (h : P.underlying t = some (.int k)) {n : Int} (hw : (Lit.int k n).wf = true) : Ty P t [.int k n]
  | str {t : TypeId} (h : P.underlying t = some .string) {s : List UInt8} (hs : s.length ≤ maxLen) : Ty P t [.str s]
  | lst {t e : TypeId} (h : P.underlying t = some (.slice e)) {els : List DV} (hn : els.length ≤ maxLen)
      (hx : ∀ x ∈ els, x = elOf (isAggT P e) x.cells ∧ x.cells.length = P.cellsOf e) (he : ∀ x ∈ els, Ty P e x.cells) : Ty P t [.lst (P.cellsOf e) els false]
  | struct {t : TypeId} {fs : Array Field} (h : P.underlying t = some (.struct fs)) {cs : List DV} (hl : cs.length = P.cellsOf t)
      (hf : ∀ f ∈ fs, Ty P f.type ((cs.drop f.offset).take (P.cellsOf f.type))) : Ty P t cs

def okFs (P : Program) (ok : TypeId → Bool) : Nat → List Field → Nat → Bool
  | k, [], z => Nat.beq k z
  | k, f :: fs, z => Nat.beq f.offset k && ok f.type && okFs P ok (k + P.cellsOf f.type) fs z
def okT (P : Program) : Nat → TypeId → Bool
  | 0, _ => false
  | n + 1, t => match P.underlying t with
    | some .bool => Nat.beq (P.cellsOf t) 1
    | some (.int _) => Nat.beq (P.cellsOf t) 1
    | some .string => Nat.beq (P.cellsOf t) 1
    | some (.slice e) => Nat.beq (P.cellsOf t) 1 && Nat.ble 1 (P.cellsOf e) && (isAggT P e || Nat.beq (P.cellsOf e) 1) && okT P n e
    | some (.struct fs) => okFs P (okT P n) 0 fs.toList (P.cellsOf t)
    | _ => false

theorem mapM_get {α β : Type} {f : α → Option β} : ∀ {l : List α} {r : List β}, l.mapM f = some r → r.length = l.length ∧ ∀ (i : Nat) (x : α) (y : β), l[i]? = some x → r[i]? = some y → f x = some y
  | [], r, h => by simp at h; subst h; simp
  | x :: l, r, h => by
    rw [List.mapM_cons] at h
    cases hx : f x with
    | none => simp [hx] at h
    | some y =>
      cases hl : l.mapM f with
      | none => simp [hx, hl] at h
      | some q =>
        simp [hx, hl] at h; subst h
        obtain ⟨g1, g2⟩ := mapM_get hl
        refine ⟨by simp [g1], fun i a b ha hb => ?_⟩
        cases i with
        | zero => simp at ha hb; subst ha; subst hb; exact hx
        | succ i => exact g2 i a b (by simpa using ha) (by simpa using hb)

def DRs (κ : Kap) (h : Heap) (xs : List DV) (cs : List Value) : Prop :=
  xs.length = cs.length ∧ (∀ y ∈ xs, y.scal = true) ∧ ∀ (i : Nat) (x : DV) (v : Value), xs[i]? = some x → cs[i]? = some v → DR κ h x v

theorem DRs.one {κ : Kap} {h : Heap} {x : DV} {v : Value} (hs : x.scal = true) (r : DR κ h x v) : DRs κ h [x] [v] :=
  ⟨rfl, by simp [hs], fun i x' v' hx hv => by
    cases i with
    | zero => simp at hx hv; subst hx; subst hv; exact r
    | succ i => simp at hx⟩

theorem DRs.append {κ : Kap} {h : Heap} {xs ys : List DV} {cs ds : List Value} (a : DRs κ h xs cs) (b : DRs κ h ys ds) : DRs κ h (xs ++ ys) (cs ++ ds) := by
  refine ⟨by simp [a.1, b.1], fun y hy => ?_, fun i x v hx hv => ?_⟩
  · rcases List.mem_append.1 hy with hy | hy
    · exact a.2.1 y hy
    · exact b.2.1 y hy
  · by_cases hi : i < xs.length
    · rw [List.getElem?_append_left hi] at hx
      rw [List.getElem?_append_left (by have := a.1; omega)] at hv
      exact a.2.2 i x v hx hv
    · rw [List.getElem?_append_right (by omega)] at hx
      rw [List.getElem?_append_right (by have := a.1; omega), ← a.1] at hv
      exact b.2.2 _ x v hx hv

/-- At a law's entry nobody writes what is there. -/
def κ0 (w : World) : Kap := fun b => if b < w.heap.size then .imm else .oth

theorem cells_get {w : World} {base : Nat} {a : Addr} {n : Nat} {cs : List Value} (h : w.cells? base a n = some cs) : base ≤ a.block ∧ cs.length = n ∧ ∀ j, j < n → w.cell? (a.add j) = cs[j]? := by
  unfold World.cells? at h
  split at h
  · rename_i hb
    obtain ⟨g1, g2⟩ := mapM_get h
    simp at g1
    refine ⟨hb, g1, fun j hj => ?_⟩
    have e : cs[j]? = some cs[j] := by simp [show j < cs.length by omega]
    have := g2 j j cs[j] (by simp [hj]) e
    rw [this, e]
  · cases h

theorem add_spot (a : Addr) (h : a.spot = none) (j : Nat) : a.add j = ⟨a.block, a.off + j, none⟩ := by
  obtain ⟨b, o, s⟩ := a
  simp only at h; subst h
  exact add_at b o j


section
variable {H : Type} {enc : TypeId × Value → H} {w : World}

theorem elOf_cells {agg : Bool} {cs : List DV} (hs : ∀ y ∈ cs, y.scal = true) (h : agg = true ∨ cs.length = 1) : (elOf agg cs).cells = cs := by
  cases agg with
  | true => rfl
  | false =>
    have hl : cs.length = 1 := by rcases h with h | h; cases h; exact h
    match cs, hl with
    | [x], _ =>
      have := hs x (by simp)
      show x.cells = [x]
      cases x <;> first | rfl | (simp [DV.scal] at this)

theorem lt_heap {w : World} {b : Nat} {o : Obj} (e : w.heap[b]? = some o) : b < w.heap.size := by
  rcases Nat.lt_or_ge b w.heap.size with h' | h'
  · exact h'
  · rw [Array.getElem?_eq_none h'] at e; simp at e

theorem cell_form {w : World} {a : Addr} {v : Value} (h : w.cell? a = some v) : a.spot = none ∧ ∃ c ty fz, w.heap[a.block]? = some (.cells c ty fz) ∧ c[a.off]? = some v := by
  unfold World.cell? at h
  cases hb : w.heap[a.block]? with
  | none => rw [hb] at h; simp at h
  | some o =>
    rw [hb] at h
    cases o <;> simp at h
    rename_i c ty fz
    exact ⟨h.1, c, ty, fz, rfl, h.2⟩

theorem trod_slice {t e : TypeId} {fuel : Nat} (ht : P.underlying t = some (.slice e)) (hc1 : 1 ≤ P.cellsOf e) (hagg : isAggT P e = true ∨ P.cellsOf e = 1)
    (ih : ∀ (cs : List Value) (x : DataW H × List MemPlace), DataW.trod enc P w 0 (fun _ => true) true fuel e cs = some x → ∃ xs, xs.length = P.cellsOf e ∧ DRs (κ0 w) w.heap xs cs ∧ Ty P e xs)
    {cs : List Value} {x : DataW H × List MemPlace} (h : DataW.trod enc P w 0 (fun _ => true) true (fuel + 1) t cs = some x) : ∃ xs, xs.length = 1 ∧ DRs (κ0 w) w.heap xs cs ∧ Ty P t xs := by
  unfold DataW.trod at h
  rw [ht] at h
  match cs, h with
  | [.slice none 0 0], _ => exact ⟨[.lst (P.cellsOf e) [] false], rfl, .one rfl (.lst0 (fun h => by cases h)), .lst ht (by simp) (by simp) (by simp)⟩
  | [.slice (some a) len cap], h =>
    simp only at h
    split at h
    · rename_i hcond
      simp only [if_true, Option.bind_eq_some_iff, Option.map_eq_some_iff] at h
      obtain ⟨elems, he, rest, hr, _⟩ := h
      obtain ⟨e1, e2⟩ := mapM_get he
      obtain ⟨r1, r2⟩ := mapM_get hr
      simp only [List.length_range] at e1 r1
      have elem : ∀ i, i < cap → ∃ cs' x', w.cells? 0 (a.add (i * P.cellsOf e)) (P.cellsOf e) = some cs' ∧ DataW.trod enc P w 0 (fun _ => true) true fuel e cs' = some x' := by
        intro i hi
        by_cases hl : i < len
        · have q : elems[i]? = some elems[i] := by simp [show i < elems.length by omega]
          have := e2 i i _ (by simp [hl]) q
          simp only [Option.bind_eq_some_iff] at this
          obtain ⟨c, h1, h2⟩ := this
          exact ⟨c, _, h1, h2⟩
        · have q : rest[i - len]? = some rest[i - len] := by simp [show i - len < rest.length by omega]
          have := r2 (i - len) (i - len) _ (List.getElem?_range (by omega)) q
          simp only [Option.bind_eq_some_iff] at this
          obtain ⟨c, h1, h2⟩ := this
          rw [show len + (i - len) = i by omega] at h1
          exact ⟨c, _, h1, h2⟩
      by_cases hl0 : len = 0
      · subst hl0
        exact ⟨[.lst (P.cellsOf e) [] false], rfl, .one rfl (.lst0 (fun h => by cases h)), .lst ht (by simp) (by simp) (by simp)⟩
      · -- the elements
        have hcap : 0 < cap := by omega
        obtain ⟨c0, x0, g0, _⟩ := elem 0 hcap
        obtain ⟨_, gl, gj⟩ := cells_get g0
        have g00 := gj 0 (by omega)
        have : c0[0]? = some c0[0] := by simp [show 0 < c0.length by omega]
        rw [this] at g00
        have ha0 : (a.add (0 * P.cellsOf e)).add 0 = a := by simp [Addr.add]
        rw [ha0] at g00
        obtain ⟨hsp, c, ty, fz, hb, _⟩ := cell_form g00
        obtain ⟨b, off, sp⟩ := a
        simp only at hsp hb; subst hsp
        have addr : ∀ i j, ((⟨b, off, none⟩ : Addr).add (i * P.cellsOf e)).add j = ⟨b, off + i * P.cellsOf e + j, none⟩ := fun i j => by rw [add_at, add_at]
        -- each element's cells lie in the block
        have cellAt : ∀ i, i < cap → ∀ cs', w.cells? 0 ((⟨b, off, none⟩ : Addr).add (i * P.cellsOf e)) (P.cellsOf e) = some cs' → cs'.length = P.cellsOf e ∧ ∀ j, j < P.cellsOf e → c[off + i * P.cellsOf e + j]? = cs'[j]? := by
          intro i _ cs' h'
          obtain ⟨_, k1, k2⟩ := cells_get h'
          refine ⟨k1, fun j hj => ?_⟩
          have := k2 j hj
          rw [addr, cell_at hb] at this
          exact this
        have hsize : off + cap * P.cellsOf e ≤ c.size := by
          obtain ⟨cs', _, h1, _⟩ := elem (cap - 1) (by omega)
          obtain ⟨k1, k2⟩ := cellAt (cap - 1) (by omega) cs' h1
          have := k2 (P.cellsOf e - 1) (by omega)
          have q : cs'[P.cellsOf e - 1]? = some cs'[P.cellsOf e - 1] := by simp [show P.cellsOf e - 1 < cs'.length by omega]
          rw [q] at this
          have := (Array.getElem?_eq_some_iff.1 this).1
          have e3 : cap * P.cellsOf e = (cap - 1) * P.cellsOf e + P.cellsOf e := by
            conv => lhs; rw [show cap = (cap - 1) + 1 by omega, Nat.add_mul, Nat.one_mul]
          omega
        have ex : ∀ i, ∃ xs : List DV, i < cap → xs.length = P.cellsOf e ∧ Ty P e xs ∧ (∀ y ∈ xs, y.scal = true) ∧ ∀ (j : Nat) (y : DV) (v : Value), xs[j]? = some y → c[off + i * P.cellsOf e + j]? = some v → DR (κ0 w) w.heap y v := by
          intro i
          by_cases hi : i < cap
          · obtain ⟨cs', x', h1, h2⟩ := elem i hi
            obtain ⟨xs, hx1, hx2, hx3⟩ := ih cs' x' h2
            obtain ⟨k1, k2⟩ := cellAt i hi cs' h1
            refine ⟨xs, fun _ => ⟨hx1, hx3, hx2.2.1, fun j y v hy hv => ?_⟩⟩
            have hj : j < P.cellsOf e := by have := (List.getElem?_eq_some_iff.1 hy).1; omega
            rw [k2 j hj] at hv
            exact hx2.2.2 j y v hy hv
          · exact ⟨[], fun h => absurd h hi⟩
        obtain ⟨F, hF⟩ := Classical.axiomOfChoice ex
        have hcells : ∀ i, i < cap → (elOf (isAggT P e) (F i)).cells = F i := fun i hi => elOf_cells (hF i hi).2.2.1 (by rcases hagg with h | h; exact .inl h; exact .inr (by rw [(hF i hi).1, h]))
        have mem : ∀ x ∈ (List.range len).map (fun i => elOf (isAggT P e) (F i)), ∃ i, i < len ∧ x = elOf (isAggT P e) (F i) := by
          intro x hx
          obtain ⟨i, hi, rfl⟩ := List.mem_map.1 hx
          exact ⟨i, by simpa using hi, rfl⟩
        have hlen : ((List.range len).map (fun i => elOf (isAggT P e) (F i))).length = len := by simp
        refine ⟨[.lst (P.cellsOf e) ((List.range len).map (fun i => elOf (isAggT P e) (F i))) false], rfl, .one rfl ?_, .lst ht (by rw [hlen]; omega) (fun x hx => ?_) (fun x hx => ?_)⟩
        · have := DR.lst (κ := κ0 w) (h := w.heap) (sz := P.cellsOf e) (els := (List.range len).map (fun i => elOf (isAggT P e) (F i))) (full := false) (b := b) (off := off) (cap := cap) (c := c) (ty := ty) (fz := fz)
            (by simp [κ0, lt_heap hb]) hb (fun h => by cases h) (by rw [hlen]; omega) hsize (fun x hx => by
              obtain ⟨i, hi, rfl⟩ := mem x hx
              rw [hcells i (by omega)]
              exact ⟨(hF i (by omega)).1, (hF i (by omega)).2.2.1⟩) (fun i x j y v hx hy hv => by
              have hi : i < len := by have := (List.getElem?_eq_some_iff.1 hx).1; rw [hlen] at this; exact this
              simp [hi] at hx; subst hx
              rw [hcells i (by omega)] at hy
              exact (hF i (by omega)).2.2.2 j y v hy hv)
          rw [hlen] at this; exact this
        · obtain ⟨i, hi, rfl⟩ := mem x hx
          rw [hcells i (by omega)]
          exact ⟨rfl, (hF i (by omega)).1⟩
        · obtain ⟨i, hi, rfl⟩ := mem x hx
          rw [hcells i (by omega)]
          exact (hF i (by omega)).2.1
    · cases h

theorem trod_fields {ok : TypeId → Bool} {g : TypeId → List Value → Option (DataW H × List MemPlace)}
    (ih : ∀ t, ok t = true → ∀ cs x, g t cs = some x → ∃ xs, xs.length = P.cellsOf t ∧ DRs (κ0 w) w.heap xs cs ∧ Ty P t xs) :
    ∀ (fs : List Field) (k z : Nat) (cs : List Value), okFs P ok k fs z = true → cs.length = z → k ≤ z → (∀ f ∈ fs, ∃ x, g f.type ((cs.drop f.offset).take (P.cellsOf f.type)) = some x) →
    ∃ xs, k + xs.length = z ∧ DRs (κ0 w) w.heap xs (cs.drop k) ∧ ∀ f ∈ fs, k ≤ f.offset ∧ Ty P f.type ((xs.drop (f.offset - k)).take (P.cellsOf f.type))
  | [], k, z, cs, h, hl, _, _ => by
    have := nbE h
    subst this
    refine ⟨[], by simp, ?_, by simp⟩
    rw [List.drop_of_length_le (by omega)]
    exact ⟨rfl, by simp, by simp⟩
  | f :: fs, k, z, cs, h, hl, hk, hg => by
    simp only [okFs, Bool.and_eq_true] at h
    have hoff := nbE h.1.1
    obtain ⟨x, hx⟩ := hg f (by simp)
    obtain ⟨ys, y1, y2, y3⟩ := ih f.type h.1.2 _ _ hx
    rw [hoff] at y2
    have hlen : k + P.cellsOf f.type ≤ z := by
      have := y2.1
      simp at this
      omega
    obtain ⟨xs, x1, x2, x3⟩ := trod_fields ih fs (k + P.cellsOf f.type) z cs h.2 hl hlen (fun q hq => hg q (by simp [hq]))
    refine ⟨ys ++ xs, by simp; omega, ?_, fun q hq => ?_⟩
    · have := y2.append x2
      rw [← List.drop_drop, List.take_append_drop] at this
      exact this
    · rcases List.mem_cons.1 hq with rfl | hq
      · refine ⟨by omega, ?_⟩
        rw [show q.offset - k = 0 by omega, List.drop_zero, List.take_left' y1]
        exact y3
      · obtain ⟨q1, q2⟩ := x3 q hq
        refine ⟨by omega, ?_⟩
        rw [show q.offset - k = ys.length + (q.offset - (k + P.cellsOf f.type)) by omega, List.drop_append]
        rw [List.drop_of_length_le (by omega), List.nil_append, show ys.length + (q.offset - (k + P.cellsOf f.type)) - ys.length = q.offset - (k + P.cellsOf f.type) by omega]
        exact q2

theorem trod_Ty : ∀ (n : Nat) (t : TypeId), okT P n t = true → ∀ (fuel : Nat) (cs : List Value) (x : DataW H × List MemPlace), DataW.trod enc P w 0 (fun _ => true) true fuel t cs = some x →
    ∃ xs, xs.length = P.cellsOf t ∧ DRs (κ0 w) w.heap xs cs ∧ Ty P t xs
  | 0, _, h => by simp [okT] at h
  | n + 1, t, h => by
    intro fuel cs x hx
    simp only [okT] at h
    split at h
    · rename_i ht
      obtain ⟨b, rfl, _⟩ := DataW.trod_bool ht hx
      exact ⟨[.bool b], (nbE h).symm, .one rfl (.bool b), .bool ht b⟩
    · rename_i k ht
      obtain ⟨i, rfl, _, hw⟩ := DataW.trod_int ht hx
      exact ⟨[.int k i], (nbE h).symm, .one rfl (.int k i), .int ht hw⟩
    · rename_i ht
      obtain ⟨s, rfl, _, hs⟩ := DataW.trod_string ht hx
      refine ⟨[.str s.data.toList], (nbE h).symm, .one rfl ?_, .str ht (by simpa using hs)⟩
      exact .str s.data.toList
    · rename_i e ht
      simp only [Bool.and_eq_true, Bool.or_eq_true] at h
      cases fuel with
      | zero => simp [DataW.trod] at hx
      | succ fuel =>
        obtain ⟨xs, h1, h2⟩ := trod_slice ht (Nat.le_of_ble_eq_true h.1.1.2) (h.1.2.imp id nbE) (fun cs x hx => trod_Ty n e h.2 fuel cs x hx) hx
        exact ⟨xs, by rw [h1, nbE h.1.1.1], h2⟩
    · rename_i fs ht
      obtain ⟨xs, m, rfl, _, hl, hsz, hi⟩ := DataW.trod_struct ht hx
      obtain ⟨ys, y1, y2, y3⟩ := trod_fields (g := fun t cs => DataW.trod enc P w 0 (fun _ => true) true m t cs) (ok := okT P n) (fun t ht cs x hx => trod_Ty n t ht m cs x hx) fs.toList 0 (P.cellsOf t) cs h hl (by omega) (fun f hf => by
        obtain ⟨i, hi'⟩ := List.mem_iff_getElem?.1 hf
        have q := hi i f (by simpa using hi')
        have hlt : i < fs.size := by have := (List.getElem?_eq_some_iff.1 hi').1; simpa using this
        have : xs[i]? = some xs[i] := by simp [show i < xs.length by omega]
        rw [this] at q
        exact ⟨_, q⟩)
      refine ⟨ys, by omega, by simpa using y2, .struct ht (by omega) (fun f hf => ?_)⟩
      have := (y3 f (by simpa using hf)).2
      simpa using this
    · cases h

/-- A value of a type as one datum. -/
theorem Trod_Ty {n : Nat} {t : TypeId} (hok : okT P n t = true) {v : Value} {d : DataW H} {ps : List MemPlace}
    (hv : isAggT P t = true → ∃ cs, v = .agg cs) (hv1 : isAggT P t = false → ∀ cs, v ≠ .agg cs) (h : DataW.Trod enc P w 0 (fun _ => true) true t v d ps) :
    ∃ xs, DR (κ0 w) w.heap (elOf (isAggT P t) xs) v ∧ Ty P t xs := by
  obtain ⟨fuel, h⟩ := h
  obtain ⟨xs, h1, h2, h3⟩ := trod_Ty n t hok fuel _ _ h
  refine ⟨xs, ?_, h3⟩
  cases ha : isAggT P t with
  | true =>
    obtain ⟨cs, rfl⟩ := hv ha
    show DR _ _ (.agg xs) _
    refine .agg ?_ h2.2.1 (fun i x v hx hv => h2.2.2 i x v hx (by simpa [Value.cells] using hv))
    have := h2.1; simp [Value.cells] at this; omega
  | false =>
    have hc : v.cells.toList = [v] := by
      have := hv1 ha
      cases v <;> first | rfl | exact absurd rfl (this _)
    rw [hc] at h2
    have hl : xs.length = 1 := h2.1
    match xs, hl with
    | [x], _ => exact h2.2.2 0 x v rfl rfl

theorem okWide_form {n : Nat} {t : TypeId} (hok : okT P n t = true) {W : World} {base : Nat} {v : Value} (h : Value.okWide P W .any base t v) :
    (isAggT P t = true → ∃ cs, v = .agg cs) ∧ (isAggT P t = false → ∀ cs, v ≠ .agg cs) := by
  cases n with
  | zero => simp [okT] at hok
  | succ n =>
    simp only [okT] at hok
    unfold Value.okWide at h
    split at hok <;> rename_i ht
    all_goals first | (cases hok; done) | skip
    all_goals (rw [ht] at h; simp only at h)
    all_goals first
      | (refine ⟨fun ha => by simp [isAggT, ht] at ha, fun _ cs e => ?_⟩; subst e; simp [Cell.okWide, Cell.ok, ht] at h; done)
      | (obtain ⟨cs, rfl, _⟩ := h; exact ⟨fun _ => ⟨cs, rfl⟩, fun ha => by simp [isAggT, ht] at ha⟩)

theorem sameAt_of {W W' : World} (hh : ∀ b, b < W.heap.size → W'.heap[b]? = W.heap[b]?) {p : MemPlace} (hp : p.block < W.heap.size) : W.sameAt W' p := by
  cases p with
  | cell b off => simp only [World.sameAt, World.cell?]; rw [hh b hp]
  | map b => exact hh b hp

theorem keptBut_of {W W' : World} (hh : ∀ b, b < W.heap.size → W'.heap[b]? = W.heap[b]?) (h1 : W'.os = W.os) (h2 : W'.output = W.output) (may : MemPlace → Prop) : W.keptBut W' may := by
  refine ⟨h1, h2, fun i hi => ?_⟩
  rw [hh i hi]
  cases W.heap[i]? with
  | none => rfl
  | some o => cases o <;> first | exact ⟨rfl, rfl, rfl, fun _ _ => rfl⟩ | exact .inr ⟨rfl, rfl⟩ | rfl

theorem trodAll_stays {W W' : World} (hl : laidOutB P = true) (hh : ∀ b, b < W.heap.size → W'.heap[b]? = W.heap[b]?) {sp : Nat → Bool} (hsp : ∀ b, b < W.heap.size → sp b = true) : ∀ {ts : List TypeId} {vs : List Value} {ds : List (DataW H)} {ps : List MemPlace},
    (∀ t ∈ ts, P.readableRec t = true ∧ t < P.types.size) → (∀ p ∈ ps, p.block < W.heap.size) → DataW.TrodAll enc P W 0 (fun _ => true) true ts vs ds ps → DataW.TrodAll enc P W' 0 sp true ts vs ds ps
  | [], [], [], _, _, _, h => h
  | t :: ts, v :: vs, d :: ds, ps, hr, hp, h => by
    obtain ⟨p, q, h1, h2, rfl⟩ := h
    refine ⟨p, q, WideElems.Trod_stays hl (hr t (by simp)).1 (hr t (by simp)).2 h1 (fun x hx => sameAt_of hh (hp x (by simp [hx]))) (fun x hx => hsp _ (hp x (by simp [hx]))), ?_, rfl⟩
    exact trodAll_stays hl hh hsp (fun t ht => hr t (by simp [ht])) (fun x hx => hp x (by simp [hx])) h2

/-- The arguments of a law, each as the data of its type. -/
def Tys (P : Program) : List TypeId → List (List DV) → Prop
  | [], [] => True
  | t :: ts, x :: xs => Ty P t x ∧ Tys P ts xs
  | _, _ => False
def argsOf (P : Program) : List TypeId → List (List DV) → List DV
  | t :: ts, x :: xs => elOf (isAggT P t) x :: argsOf P ts xs
  | _, _ => []

theorem trodAll_Tys {W : World} {n base : Nat} : ∀ {ts : List TypeId} {vs : List Value} {ds : List (DataW H)} {ps : List MemPlace}, (∀ t ∈ ts, okT P n t = true) →
    (∀ (j : Nat) t v, ts[j]? = some t → vs[j]? = some v → Value.okWide P W .any base t v) → DataW.TrodAll enc P W 0 (fun _ => true) true ts vs ds ps →
    ∃ xss, Tys P ts xss ∧ ds.length = ts.length ∧ vs.length = (argsOf P ts xss).length ∧ ∀ (i : Nat) (x : DV) (v : Value), (argsOf P ts xss)[i]? = some x → vs[i]? = some v → DR (κ0 W) W.heap x v
  | [], [], [], _, _, _, _ => ⟨[], trivial, rfl, rfl, by simp [argsOf]⟩
  | t :: ts, v :: vs, d :: ds, ps, hok, hval, h => by
    obtain ⟨p, q, h1, h2, rfl⟩ := h
    obtain ⟨f1, f2⟩ := okWide_form (hok t (by simp)) (hval 0 t v rfl rfl)
    obtain ⟨xs, x1, x2⟩ := Trod_Ty (hok t (by simp)) f1 f2 h1
    obtain ⟨xss, y1, y2, y3, y4⟩ := trodAll_Tys (fun t ht => hok t (by simp [ht])) (fun j t v ht hv => hval (j + 1) t v (by simpa using ht) (by simpa using hv)) h2
    refine ⟨xs :: xss, ⟨x2, y1⟩, by simp [y2], by simp [argsOf, y3], fun i x u hx hu => ?_⟩
    cases i with
    | zero => simp [argsOf] at hx hu; subst hx; subst hu; exact x1
    | succ i => exact y4 i x u (by simpa [argsOf] using hx) (by simpa using hu)

/-- A law's step: the contract of the abstract machine gives what the row asks. -/
theorem law_post {f : FuncId} {fn : Func} {s : ChangeSpec} {apart fresh handsOn : Bool} {tb : TypeId} (n : Nat) (hl : laidOutB P = true) (hvars : s.vars = [])
    (hres : fn.resultTypes = #[tb]) (htb : P.underlying tb = some .bool) (hread : ∀ t ∈ fn.params.toList, P.readableRec t = true ∧ t < P.types.size) (hok : ∀ t ∈ fn.params.toList, okT P n t = true)
    (hs : ∀ ds : List (DataW H), ds.length = fn.params.size → s.fn H ds = { results := [.lit (.bool true)], args := ds })
    (hC : ∀ xss, Tys P fn.params.toList xss → C P f ((argsOf P fn.params.toList xss).map .d) [] (fun r o => r = .d (.bool true) ∧ o = []))
    (W : World) (base : Nat) (args : Array Value) (ds gs : List (DataW H)) (before : List MemPlace)
    (hval : ∀ (j : Nat) t v, fn.params[j]? = some t → args[j]? = some v → Value.okWide P W .any base t v)
    (hW : DataW.Whole enc P fn.params.toList s.vars apart W args.toList ds gs before) :
    Calls P f args W fun e W' => ∃ v, e = .returned v ∧ s.post enc P fn apart fresh handsOn false W args v W' := by
  have hW' := hW
  obtain ⟨p, q, hA, hV, hb, hfz, hnd⟩ := hW
  rw [hvars] at hV
  obtain ⟨rfl, rfl⟩ := trodVars_none hV
  obtain ⟨xss, y1, y2, y3, y4⟩ := trodAll_Tys (n := n) (base := base) hok (fun j t v ht hv => hval j t v (by simpa using ht) (by simpa using hv)) hA
  have hlt : ∀ x ∈ p, x.block < W.heap.size := fun x hx => DataW.TrodAll.lt hA x hx
  refine (hC xss y1 (κ0 W) (fun _ => .un) W args (fun i => by rw [tabNil]; rfl) (fun b hb => by
    by_cases h : b < W.heap.size
    · exact h
    · simp [κ0, h] at hb) (by simpa using y3) (fun i x v hx hv => ?_)).mono ?_
  · simp only [List.getElem?_map, Option.map_eq_some_iff] at hx
    obtain ⟨y, hy, rfl⟩ := hx
    exact .d (y4 i y v hy (by simpa using hv))
  · rintro e W' ⟨v, r, o, κ', φ', rfl, ⟨rfl, rfl⟩, hr, _, _, _, F, _⟩
    have hh : ∀ b, b < W.heap.size → W'.heap[b]? = W.heap[b]? := fun b hb => (F.imm b (by simp [κ0, hb])).2
    have hv : v = .bool true := by cases hr with | d h => cases h; rfl
    subst hv
    have hds : s.fn H (ds ++ []) = { results := [.lit (.bool true)], args := ds } := by rw [List.append_nil]; exact hs ds (by rw [y2]; simp)
    refine ⟨_, rfl, ds, [], before, [], p, [], hW', ?_, ?_, ?_, keptBut_of hh F.os F.out _, fun h => by cases h⟩
    · rw [hds, hres]
      exact trodAll_cons_mk (shut_bool htb _) trodAll_mk0
    · rw [hds]
      exact trodAll_stays hl hh (fun b hb => by simpa using hb) hread hlt hA
    · rw [hds, hvars]; rfl
end


theorem Ty.bool_inv {t : TypeId} {xs : List DV} (hu : P.underlying t = some .bool) (h : Ty P t xs) : ∃ b, xs = [.bool b] := by
  cases h with
  | bool h b => exact ⟨_, rfl⟩
  | int h => rw [hu] at h; cases h
  | str h => rw [hu] at h; cases h
  | lst h => rw [hu] at h; cases h
  | struct h => rw [hu] at h; cases h
theorem Ty.int_inv {t : TypeId} {k : IntKind} {xs : List DV} (hu : P.underlying t = some (.int k)) (h : Ty P t xs) : ∃ n, xs = [.int k n] ∧ (Lit.int k n).wf = true := by
  cases h with
  | int h hw => rw [hu] at h; injection h with h; injection h with h; subst h; exact ⟨_, rfl, hw⟩
  | bool h => rw [hu] at h; cases h
  | str h => rw [hu] at h; cases h
  | lst h => rw [hu] at h; cases h
  | struct h => rw [hu] at h; cases h
theorem Ty.str_inv {t : TypeId} {xs : List DV} (hu : P.underlying t = some .string) (h : Ty P t xs) : ∃ s, xs = [.str s] ∧ s.length ≤ maxLen := by
  cases h with
  | str h hs => exact ⟨_, rfl, hs⟩
  | bool h => rw [hu] at h; cases h
  | int h => rw [hu] at h; cases h
  | lst h => rw [hu] at h; cases h
  | struct h => rw [hu] at h; cases h
theorem Ty.lst_inv {t e : TypeId} {xs : List DV} (hu : P.underlying t = some (.slice e)) (h : Ty P t xs) :
    ∃ els, xs = [.lst (P.cellsOf e) els false] ∧ els.length ≤ maxLen ∧ ∀ x ∈ els, x = elOf (isAggT P e) x.cells ∧ x.cells.length = P.cellsOf e ∧ Ty P e x.cells := by
  cases h with
  | lst h hn hx he => rw [hu] at h; injection h with h; injection h with h; subst h; exact ⟨_, rfl, hn, fun x q => ⟨(hx x q).1, (hx x q).2, he x q⟩⟩
  | bool h => rw [hu] at h; cases h
  | int h => rw [hu] at h; cases h
  | str h => rw [hu] at h; cases h
  | struct h => rw [hu] at h; cases h
theorem Ty.struct_inv {t : TypeId} {fs : Array Field} {xs : List DV} (hu : P.underlying t = some (.struct fs)) (h : Ty P t xs) :
    xs.length = P.cellsOf t ∧ ∀ (i : Nat) (f : Field), fs[i]? = some f → Ty P f.type ((xs.drop f.offset).take (P.cellsOf f.type)) := by
  cases h with
  | struct h hl hf => rw [hu] at h; injection h with h; injection h with h; subst h; exact ⟨hl, fun i f q => hf f (Array.mem_of_getElem? q)⟩
  | bool h => rw [hu] at h; cases h
  | int h => rw [hu] at h; cases h
  | str h => rw [hu] at h; cases h
  | lst h => rw [hu] at h; cases h
end Go.Am
