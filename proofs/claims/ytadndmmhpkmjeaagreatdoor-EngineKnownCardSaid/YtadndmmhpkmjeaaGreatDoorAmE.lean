/-
  Texts that the claim leans on, one behind the other: AmVc, AmVl, AmVf, AmVg, AmVh, AmRg, AmRh, AmKr, AmDf, AmIn, AmTw, AmLaw, AmLw, AmCl.
-/
import Derived.Test.YtadndmmhpkmjeaaGreatDoorAmC
import Derived.Test.YtadndmmhpkmjeaaGreatDoorAmD
import Derived.Maps.RangeRun
import Derived.Defers
import Derived.WideKeyArgs
import Derived.ChangeShapes
import Derived.ChangeArms
import Derived.RowKit
import Derived.ProofKit
import Derived.OpenShut
import Derived.JoinedCond
import GoSem.ClaimJoined
import Derived.Lib.LaidTab
import Derived.LaidLaws

/-
  The closed machine: contracts out of its runs.
-/
namespace Go.Am
set_option linter.unusedSectionVars false
variable {P : Program} [Gl]

theorem C_of_GC {f : FuncId} {args : List RV} {objs os : List PObj} {r r' : RV} {O' : Tab} (hG : GC P f args (tabOf objs) r O') (hcol : collect objs.length r O' = some (r', os)) :
    C P f args objs (fun r2 o2 => r2 = r' ∧ o2 = os) := by
  intro κ φ w vs h1 h2 h3 h4
  refine (hG κ φ w vs h1 h2 h3 h4).mono ?_
  rintro e w' ⟨v, κ', φ', rfl, hr, hob, hbd, hfr, K'⟩
  unfold collect at hcol
  simp only at hcol
  generalize hps : List.range objs.length ++ (reach O' 400 (r.refs 6 ++ (List.range objs.length).flatMap fun i => objRefs (O' i)) []).filter (fun i => Nat.ble objs.length i) = ps at hcol
  cases hnd : nodupB ps with
  | false => rw [hnd] at hcol; simp at hcol
  | true =>
    rw [hnd] at hcol; simp only [cond_true] at hcol
    split at hcol
    · rename_i r2 os2 hr1 ho1
      · simp only [Option.some.injEq, Prod.mk.injEq] at hcol
        obtain ⟨rfl, rfl⟩ := hcol
        obtain ⟨o1, o2⟩ := mapO_spec _ ps os2 ho1
        let κ2 : Kap := fun b => match κ' b with
          | .imm => .imm
          | .own i => match idx i ps 0 with | some j => .own j | none => .oth
          | .oth => .oth
        let φ2 : Phi := fun j => match ps[j]? with | some i => φ' i | none => .un
        have idxps : ∀ (i j : Nat), idx i ps 0 = some j → ps[j]? = some i := fun i j h => by have := (idx_spec i ps 0 j h).2; simpa using this
        have psidx : ∀ (i j : Nat), ps[j]? = some i → idx i ps 0 = some j := fun i j h => by
          obtain ⟨k, hk⟩ := idx_mem i ps 0 (List.mem_iff_getElem?.2 ⟨j, h⟩)
          rw [hk, nodupB_spec ps hnd k j i (idxps i k hk) h]
        have himm : ∀ b, κ' b = .imm → κ2 b = .imm := fun b hb => by simp only [κ2, hb]
        have hφ2 : ∀ (i j : Nat), idx i ps 0 = some j → φ' i ≠ .un → φ2 j = φ' i := fun i j h _ => by simp only [φ2, idxps i j h]
        have objAt : ∀ (j i : Nat), ps[j]? = some i → ∃ p q, O' i = some p ∧ p.ren (fun i => idx i ps 0) = some q ∧ os2[j]? = some q := by
          intro j i h
          have hlt := (List.getElem?_eq_some_iff.1 h).1
          have hlt2 : j < os2.length := by omega
          have hq : os2[j]? = some os2[j] := by simp [hlt2]
          have := o2 j i _ h hq
          cases e : O' i with
          | none => simp only [e] at this; cases this
          | some p => simp only [e] at this; exact ⟨p, _, rfl, this, hq⟩
        have hlen2 : ∀ (i j n : Nat), idx i ps 0 = some j → φ' i ≠ .un → PObj.len? (tabOf os2 j) = some n → PObj.len? (O' i) = some n := by
          intro i j n h _ hn
          obtain ⟨p, q, e1, e2, e3⟩ := objAt j i (idxps i j h)
          rw [e1, ← ren_len e2]; simp only [tabOf, e3] at hn; exact hn
        have first : ∀ i, i < objs.length → ps[i]? = some i := fun i hi => by
          rw [← hps, List.getElem?_append_left (by simpa using hi)]; simp [hi]
        have hltOf : ∀ i, φ i ≠ .un → i < objs.length := fun i hi => by
          rcases Nat.lt_or_ge i objs.length with h | h
          · exact h
          · exfalso; apply hi
            have := h1 i
            have e : tabOf objs i = none := by simp only [tabOf]; exact List.getElem?_eq_none h
            rw [e] at this; exact this
        refine ⟨v, r2, os2, κ2, φ2, rfl, ⟨rfl, rfl⟩, RVR.ren (ρ := fun i => idx i ps 0) himm hφ2 hlen2 6 _ _ _ hr1 hr, fun j => ?_, hbd.same (fun b e => by simp only [κ2, e]), ?_,
          hfr.trans ⟨Nat.le_refl _, fun b hb => ⟨himm b hb, rfl⟩, fun b _ hb => ⟨by simp only [κ2, hb], rfl⟩, fun _ c _ fz hc => ⟨c, fz, hc, rfl⟩, rfl, rfl⟩, ⟨fun i hi => ?_, fun i n hi hn => ?_⟩⟩
        · cases hj : ps[j]? with
          | none =>
            have : os2[j]? = none := by rw [List.getElem?_eq_none_iff] at hj ⊢; omega
            simp only [tabOf, this]
            show φ2 j = .un
            simp only [φ2, hj]
          | some i =>
            obtain ⟨p, q, e1, e2, e3⟩ := objAt j i hj
            simp only [tabOf, e3]
            have ho := hob i
            rw [e1] at ho
            exact OR.ren (ρ := fun i => idx i ps 0) himm hφ2 hlen2 (psidx i j hj) (fun b hb => by simp only [κ2, hb, psidx i j hj]) e2 ho
        · rw [o1, ← hps]; simp
        · simp only [φ2, first i (hltOf i hi)]
          exact K'.phi i hi
        · have hlt := hltOf i hi
          have h2' : φ' i ≠ .un := by rw [K'.phi i hi]; exact hi
          exact K'.len i n hi (hlen2 i i n (psidx i i (first i hlt)) h2' hn)
    · simp at hcol

theorem konV_ok {call : VCall} (h : VSound P call) : KSound P (konV call) := by
  intro f args objs r objs' c hk _
  unfold konV at hk
  cases hb : Nat.ble objs.length 4000 with
  | false => rw [hb] at hk; simp at hk
  | true =>
    rw [hb] at hk; simp only [cond_true] at hk
    split at hk
    · rename_i r1 O1 nx1 hcl
      split at hk
      · rename_i r' os hcol
        simp only [Option.some.injEq, Prod.mk.injEq] at hk
        obtain ⟨rfl, rfl, rfl⟩ := hk
        have hG := h _ _ _ _ _ _ _ hcl
        rw [objsV_fn objs (Nat.le_of_ble_eq_true hb)] at hG
        exact C_of_GC hG hcol
      · simp at hk
    · simp at hk

theorem dst_lt {n : Nat} {ops : Array Oper} (hg : guardsOk n ops = true) (hn : n ≤ 512) : ∀ o ∈ ops.toList, ∀ d, o.dst = some d → d < 512 := fun o ho d hd => by
  obtain ⟨j, hj⟩ := List.mem_iff_getElem?.1 ho
  exact Nat.lt_of_lt_of_le (guardsOk_spec hg j o d (by simpa using hj) hd) hn

section
variable [Df]
theorem vRegion_wk {cf : Cfg} (hcf : CfOk P cf) (hmix : P.follows .mixedOrders = true) {has : Nat → Bool} {call : VCall} (hcall : VSound P call) {n : Nat} (hn : n ≤ 512) {ops : Array Oper} {draw : Bool} {R R' : RT} {O O' : OT} {nx nx' : Nat}
    (h : vRegion cf has call n ops draw R O nx = some (R', O', nx')) {id : Nat} {k : List It} {m : Nat} {Q : SSt → Prop} (hk : WK P m k (vst n R' O') Q) : WK P m (.code (.region id ops draw) :: k) (vst n R O) Q := by
  unfold vRegion at h
  cases hg : guardsOk n ops with
  | false => rw [hg] at h; simp at h
  | true =>
    rw [hg] at h; simp only [cond_true] at h
    cases draw with
    | false =>
      simp only at h
      refine WK.region (s' := vst n R' O') (fun κ φ w a F => ?_) hk
      have := vOps_wp (Q := fun e a' w' => e = .normal ∧ ∃ κ' φ', FRel κ' φ' w' (vst n R' O') a' ∧ Fr κ w κ' w' ∧ KpM m φ (vst n R O).O φ' (vst n R' O').O) hcf hcall hn ops.toList 0 F h hg (fun i o hi => by simpa using hi)
        (fun a' w' κ' φ' g1 g2 g3 => ⟨rfl, κ', φ', g1, g2, g3.m m⟩)
      rw [List.range_eq_range']
      simpa using this
    | true =>
      simp only at h
      cases hq : quietOk ops with
      | false => rw [hq] at h; simp at h
      | true =>
        rw [hq] at h; simp only [cond_true] at h
        cases ha : ops.toList.all quietOp with
        | true =>
          rw [ha] at h; simp only [cond_true] at h
          split at h
          · rename_i R1 hr
            simp only [Option.some.injEq, Prod.mk.injEq] at h
            obtain ⟨rfl, rfl, rfl⟩ := h
            obtain ⟨cs, hrun, hcs⟩ := vQ_run (cf := cf) ops.toList R R1 [] (dst_lt hg hn) hr (by simp)
            refine WK.regionD (s' := vst n R1 O) hmix (fun κ φ w a F => ?_) hk
            have key := quiet_anyF (κ0 := κ) (w0 := w) (φ0 := φ) (m := m) hcf (s := vst n R O) (R0 := R.fn) hq hg rfl hrun hcs (by simp)
            refine key ops.size (Array.replicate ops.size false) κ φ w a (by simp) (by simp [List.countP_replicate]) (fun j o hj hl => by
              exfalso
              by_cases hi : j < ops.size <;> simp [Array.getD, hi] at hl) ?_ (Fr.refl _ _) (KpM.refl _ _ _)
            have : mixR ops (vst n R O).R R1.fn (Array.replicate ops.size false) = (vst n R O).R := by
              funext d
              unfold mixR
              rw [if_neg]
              rintro ⟨i, o, _, _, h3⟩
              by_cases hi : i < ops.size <;> simp [Array.getD, hi] at h3
            rw [this]; exact F
          · simp at h
        | false =>
          rw [ha] at h; simp only [cond_false] at h
          split at h
          · rename_i R1 O1 rs hr
            cases hw : rowsOk rs (ancs ops.toList []) with
            | false => rw [hw] at h; simp at h
            | true =>
              rw [hw] at h; simp only [cond_true, Option.some.injEq, Prod.mk.injEq] at h
              obtain ⟨rfl, rfl, rfl⟩ := h
              obtain ⟨cs, hrun, hcs⟩ := vE_run ops.toList R R1 O O1 [] rs [] (dst_lt hg hn) hr (by simp)
              refine WK.regionD (s' := vst n R1 O1) hmix (fun κ φ w a F => ?_) hk
              have hcf' : CfOk P { cf with K := orK cf.K (konV call), byref := fun _ => true, diff := true } := ⟨hcf.E, orK_ok hcf.K (konV_ok hcall), hcf.call⟩
              exact eff_anyF (s := vst n R O) (R0 := R.fn) (O0 := O.fn) hcf' hq hg rfl rfl hrun hw hcs (by simp) F
          · simp at h

end

theorem argsV_fn : ∀ (l : List RV) (k : Nat) (R : RT), k + l.length ≤ 512 → (argsV k l R).fn = fun t => if t < k then R.fn t else if t < k + l.length then (l[t - k]?).getD .bot else R.fn t
  | [], k, R, _ => by funext t; simp only [argsV, List.length_nil, Nat.add_zero]; split <;> rfl
  | v :: r, k, R, h => by
    simp only [List.length_cons] at h
    simp only [argsV]
    rw [argsV_fn r (k + 1) _ (by omega), RT.fn_put (by omega)]
    funext t
    simp only [setR, List.length_cons]
    by_cases h1 : t < k
    · rw [if_pos (by omega), if_pos h1, if_neg (by omega)]
    · rw [if_neg h1]
      by_cases h2 : t = k
      · subst h2; rw [if_pos (by omega), if_pos rfl, if_pos (by omega), Nat.sub_self]; rfl
      · rw [if_neg (by omega), if_neg h2]
        by_cases h3 : t < k + (r.length + 1)
        · rw [if_pos (by omega), if_pos h3, show t - k = (t - (k + 1)) + 1 by omega]; rfl
        · rw [if_neg (by omega), if_neg h3]

theorem OT.fn_big {O : OT} {i : Nat} (h : 1048576 ≤ i) : O.fn i = none := by
  unfold OT.fn; rw [Nat.ble_eq_true_of_le h]; rfl

end Go.Am

/-
  Regions whose order is drawn, and whose loud operations are bound to all others: they run in their own order.
-/
namespace Go.Am
set_option linter.unusedSectionVars false
variable {P : Program} [Gl] [Df]

def lineAt (an : List Nat) (n j : Nat) : Bool := (List.range n).all fun i => bif Nat.ble (i + 1) j then bitB (an.getD j 0) i else Nat.beq i j || bitB (an.getD i 0) j
def lineOk (ops : Array Oper) : Bool := let an := ancs ops.toList []; ops.toList.zipIdx.all fun (o, j) => quietOp o || lineAt an ops.size j

theorem lineOk_spec {ops : Array Oper} (h : lineOk ops = true) {j : Nat} {o : Oper} (hj : ops[j]? = some o) (hq : quietOp o = false) :
    (∀ i, i < j → Before ops i j) ∧ (∀ i, i < ops.size → j < i → Before ops j i) := by
  have hm : (o, j) ∈ ops.toList.zipIdx := by
    rw [List.mem_zipIdx_iff_getElem?]; simpa using hj
  have h1 := List.all_eq_true.1 h _ hm
  simp only [hq, Bool.false_or, lineAt, List.all_eq_true, List.mem_range] at h1
  have hsz := (Array.getElem?_eq_some_iff.1 hj).1
  have an := ancs_spec (ops := ops) ops.toList [] (fun i o hi => by simpa using hi) (fun i k h => by simp at h)
  constructor
  · intro i hi
    have := h1 i (by omega)
    rw [Nat.ble_eq_true_of_le (by omega)] at this
    simp only [cond_true, bitB_eq] at this
    exact an j i this
  · intro i hi hij
    have := h1 i hi
    rw [show Nat.ble (i + 1) j = false from by cases hb : Nat.ble (i + 1) j; rfl; exact absurd (Nat.le_of_ble_eq_true hb) (by omega)] at this
    simp only [cond_false, bitB_eq, Bool.or_eq_true] at this
    rcases this with h | h
    · exact absurd (nbE h) (by omega)
    · exact an i j h

/-- A run in the region's own order: the states ahead of each operation. -/
structure LineRun (P : Program) (cf : Cfg) (has : Nat → Bool) (ops : Array Oper) (l : List Oper) (k : Nat) (Rs : Nat → RT) (Os : Nat → OT) (ns : Nat → Nat) : Prop where
  at_ : ∀ j o, l[j]? = some o →
    (quietOp o = true ∧ Os (k + j + 1) = Os (k + j) ∧ ∃ v c, qVal cf ops [] (Rs (k + j)).fn (Os (k + j)).fn o = some (v, c, []) ∧ (∀ x ∈ c, x = true) ∧ Rs (k + j + 1) = putV (Rs (k + j)) o.dst v) ∨
    (quietOp o = false ∧ ∃ vc, VSound P vc ∧ vOp cf has vc ops (Rs (k + j)) (Os (k + j)) (ns (k + j)) o = some (Rs (k + j + 1), Os (k + j + 1), ns (k + j + 1)))

theorem vOp_reg {cf : Cfg} {has : Nat → Bool} {vc : VCall} {ops : Array Oper} {R R' : RT} {O O' : OT} {nx nx' : Nat} {o : Oper} (h : vOp cf has vc ops R O nx o = some (R', O', nx')) : ∃ v, R' = putV R o.dst v := by
  unfold vOp at h
  split at h
  · cases h
  · simp only [Option.some.injEq, Prod.mk.injEq] at h; exact ⟨_, h.1.symm⟩
  · have gen : ∀ r, resV R O nx o.dst r = some (R', O', nx') → ∃ v, R' = putV R o.dst v := fun r hr => by
      obtain ⟨res, un, _, _, e3, _⟩ := resV_spec hr; exact ⟨_, e3⟩
    split at h
    · simp only [Option.some.injEq, Prod.mk.injEq] at h; exact ⟨_, h.1.symm⟩
    · simp only [Option.some.injEq, Prod.mk.injEq] at h; exact ⟨_, h.1.symm⟩
    · split at h
      · split at h
        · rename_i g _ _ _
          cases hk : cf.callOk g with
          | false => rw [hk] at h; cases h
          | true =>
            rw [hk] at h; simp only [cond_true] at h
            split at h
            · exact gen _ h
            · split at h
              · simp only [Option.some.injEq, Prod.mk.injEq] at h; exact ⟨_, h.1.symm⟩
              · cases h
        · cases h
      · exact gen _ h
    · exact gen _ h

theorem mixR_set {ops : Array Oper} {R0 R' : Nat → RV} {L : Array Bool} {j : Nat} {o : Oper} {v : RV} (ho : ops[j]? = some o) (hL : L.size = ops.size) (hv : ∀ d, o.dst = some d → R' d = v) :
    setD (mixR ops R0 R' L) o.dst v = mixR ops R0 R' (L.setIfInBounds j true) := by
  have hjn := (Array.getElem?_eq_some_iff.1 ho).1
  funext d
  have hget : ∀ i, (L.setIfInBounds j true).getD i false = if i = j then true else L.getD i false := by
    intro i
    simp only [Array.getD_eq_getD_getElem?, Array.getElem?_setIfInBounds]
    by_cases e : i = j
    · subst e; have : i < L.size := by omega
      simp [this]
    · have : ¬ j = i := fun h => e h.symm
      simp [e, this]
  cases hd : o.dst with
  | none =>
    simp only [setD]
    unfold mixR
    congr 1
    apply propext
    constructor
    · rintro ⟨i, p, h1, h2, h3⟩
      exact ⟨i, p, h1, h2, by rw [hget]; split; rfl; exact h3⟩
    · rintro ⟨i, p, h1, h2, h3⟩
      rw [hget] at h3
      by_cases e : i = j
      · subst e; rw [ho] at h1; injection h1 with h1; subst h1; rw [hd] at h2; cases h2
      · rw [if_neg e] at h3; exact ⟨i, p, h1, h2, h3⟩
  | some d0 =>
    simp only [setD, setR]
    by_cases e0 : d = d0
    · subst e0
      rw [if_pos rfl]
      unfold mixR
      rw [if_pos ⟨j, o, ho, hd, by rw [hget]; simp⟩, hv d hd]
    · rw [if_neg e0]
      unfold mixR
      congr 1
      apply propext
      constructor
      · rintro ⟨i, p, h1, h2, h3⟩
        exact ⟨i, p, h1, h2, by rw [hget]; split; rfl; exact h3⟩
      · rintro ⟨i, p, h1, h2, h3⟩
        rw [hget] at h3
        by_cases e : i = j
        · subst e; rw [ho] at h1; injection h1 with h1; subst h1; rw [hd] at h2; injection h2 with h2; exact absurd h2.symm e0
        · rw [if_neg e] at h3; exact ⟨i, p, h1, h2, h3⟩

theorem line_any {cf : Cfg} (hcf : CfOk P cf) {has : Nat → Bool} {ops : Array Oper} {n : Nat} (hn : n ≤ 512) (hq : quietOk ops = true) (hg : guardsOk n ops = true) (hl : lineOk ops = true)
    {Rs : Nat → RT} {Os : Nat → OT} {ns : Nat → Nat} (hrun : LineRun P cf has ops ops.toList 0 Rs Os ns) {m : Nat} {κ0 : Kap} {w0 : World} {φ0 : Phi} :
    ∀ (fuel : Nat) (L : Array Bool) (c : Nat) (κ : Kap) (φ : Phi) (w : World) (a : Act), L.size = ops.size → L.toList.countP (· == false) = fuel →
      (∀ (j : Nat) (o : Oper), ops[j]? = some o → L.getD j false = true → ∀ e ∈ o.after, Region.binds .any e = true → L.getD e.on false = true) →
      (∀ (p : Nat) (o : Oper), ops[p]? = some o → quietOp o = false → (L.getD p false = true ↔ p < c)) → c ≤ ops.size →
      FRel κ φ w { n := n, R := mixR ops (Rs 0).fn (Rs ops.size).fn L, O := (Os c).fn, df := Df.df } a → Fr κ0 w0 κ w → KpM m φ0 (Os 0).fn φ (Os c).fn →
      wpAny P .any ops (fun e a' w' => e = .normal ∧ ∃ κ' φ', FRel κ' φ' w' (vst n (Rs ops.size) (Os ops.size)) a' ∧ Fr κ0 w0 κ' w' ∧ KpM m φ0 (Os 0).fn φ' (Os ops.size).fn) fuel L a w := by
  have hdst : ∀ (j : Nat) (o : Oper) (d : Nat), ops[j]? = some o → o.dst = some d → d < n ∧ d < 512 := fun j o d hj hd => ⟨guardsOk_spec hg j o d hj hd, Nat.lt_of_lt_of_le (guardsOk_spec hg j o d hj hd) hn⟩
  have hnd : ∀ (i j : Nat) (p q : Oper) (d : Nat), ops[i]? = some p → ops[j]? = some q → p.dst = some d → q.dst = some d → i = j := by
    intro i j p q d hi hj hp hqd
    rcases ((quietOk_spec hq (j := j) (o := q) hj).2 i p d hi hp).1 with h | h
    · exact h
    · exact absurd hqd h
  -- each step writes one register
  have hstep : ∀ (j : Nat) (o : Oper), ops[j]? = some o → ∃ v, (Rs (j + 1)).fn = setD (Rs j).fn o.dst v := by
    intro j o hj
    rcases hrun.at_ j o (by simpa using hj) with ⟨_, _, v, c, _, _, h⟩ | ⟨_, vc, _, h⟩
    · simp only [Nat.zero_add] at h
      exact ⟨v, by rw [h, putV_fn (fun d hd => (hdst j o d hj hd).2)]⟩
    · simp only [Nat.zero_add] at h
      obtain ⟨v, hv⟩ := vOp_reg h
      exact ⟨v, by rw [hv, putV_fn (fun d hd => (hdst j o d hj hd).2)]⟩
  have keep : ∀ (k i d : Nat), i + k ≤ ops.size → (∀ (j : Nat) (o : Oper), i ≤ j → j < i + k → ops[j]? = some o → o.dst ≠ some d) → (Rs (i + k)).fn d = (Rs i).fn d := by
    intro k
    induction k with
    | zero => intro i d _ _; rfl
    | succ k ih =>
      intro i d hk hh
      have hlt : i + k < ops.size := by omega
      obtain ⟨v, hv⟩ := hstep (i + k) ops[i + k] (by simp [hlt])
      rw [show i + (k + 1) = i + k + 1 by omega, hv, setD_ne (hh (i + k) _ (by omega) (by omega) (by simp [hlt]))]
      exact ih i d (by omega) (fun j o h1 h2 h3 => hh j o h1 (by omega) h3)
  have after : ∀ (j i d : Nat) (o : Oper), i < j → j ≤ ops.size → ops[i]? = some o → o.dst = some d → (Rs j).fn d = (Rs ops.size).fn d := by
    intro j i d o hij hj ho hd
    have := keep (ops.size - j) j d (by omega) (fun j' o' h1 _ h3 h4 => by have := hnd i j' o o' d ho h3 hd h4; omega)
    rw [show j + (ops.size - j) = ops.size by omega] at this
    exact this.symm
  have before : ∀ (j d : Nat), j ≤ ops.size → (∀ (i : Nat) (o : Oper), i < j → ops[i]? = some o → o.dst ≠ some d) → (Rs j).fn d = (Rs 0).fn d := by
    intro j d hj hh
    have := keep j 0 d (by omega) (fun i o _ h2 h3 => hh i o (by omega) h3)
    simpa using this
  -- quiet operations leave the objects
  have still : ∀ (k i : Nat), i + k ≤ ops.size → (∀ (j : Nat) (o : Oper), i ≤ j → j < i + k → ops[j]? = some o → quietOp o = true) → Os (i + k) = Os i := by
    intro k
    induction k with
    | zero => intro i _ _; rfl
    | succ k ih =>
      intro i hk hh
      have hlt : i + k < ops.size := by omega
      have hqk := hh (i + k) _ (by omega) (by omega) (by simp [hlt] : ops[i + k]? = some ops[i + k])
      rcases hrun.at_ (i + k) ops[i + k] (by simp [hlt]) with ⟨_, h, _⟩ | ⟨h, _⟩
      · simp only [Nat.zero_add] at h
        rw [show i + (k + 1) = i + k + 1 by omega, h]
        exact ih i (by omega) (fun j o h1 h2 h3 => hh j o h1 (by omega) h3)
      · rw [hqk] at h; cases h
  have still2 : ∀ (i j : Nat), i ≤ ops.size → j ≤ ops.size → (∀ (p : Nat) (o : Oper), ops[p]? = some o → quietOp o = false → (p < i ↔ p < j)) → Os i = Os j := by
    intro i j hi hj hh
    rcases Nat.le_total i j with h | h
    · have := still (j - i) i (by omega) (fun p o h1 h2 h3 => by
        cases hqo : quietOp o with
        | true => rfl
        | false => have := (hh p o h3 hqo).2 (by omega); omega)
      rw [show i + (j - i) = j by omega] at this
      exact this.symm
    · have := still (i - j) j (by omega) (fun p o h1 h2 h3 => by
        cases hqo : quietOp o with
        | true => rfl
        | false => have := (hh p o h3 hqo).1 (by omega); omega)
      rw [show j + (i - j) = i by omega] at this
      exact this
  have prefix_ : ∀ (L : Array Bool) (j : Nat), j ≤ ops.size → (∀ i, i < ops.size → (L.getD i false = true ↔ i < j)) → mixR ops (Rs 0).fn (Rs ops.size).fn L = (Rs j).fn := by
    intro L j hj hall
    funext d
    unfold mixR
    split
    · rename_i hex
      obtain ⟨i, o, h1, h2, h3⟩ := hex
      have hi := (Array.getElem?_eq_some_iff.1 h1).1
      exact (after j i d o ((hall i hi).1 h3) hj h1 h2).symm
    · rename_i hne
      exact (before j d hj (fun i o hi h1 h2 => hne ⟨i, o, h1, h2, (hall i (Array.getElem?_eq_some_iff.1 h1).1).2 hi⟩)).symm
  have fin : ∀ (L : Array Bool) (c : Nat) (κ : Kap) (φ : Phi) (w : World) (a : Act), (∀ i, i < ops.size → L.getD i false = true) →
      (∀ (p : Nat) (o : Oper), ops[p]? = some o → quietOp o = false → (L.getD p false = true ↔ p < c)) → c ≤ ops.size →
      FRel κ φ w { n := n, R := mixR ops (Rs 0).fn (Rs ops.size).fn L, O := (Os c).fn, df := Df.df } a → KpM m φ0 (Os 0).fn φ (Os c).fn →
      FRel κ φ w (vst n (Rs ops.size) (Os ops.size)) a ∧ KpM m φ0 (Os 0).fn φ (Os ops.size).fn := by
    intro L c κ φ w a hall hc hcs F hK
    have e : Os c = Os ops.size := still2 c ops.size hcs (Nat.le_refl _) (fun p o hp hqo => by
      have hps := (Array.getElem?_eq_some_iff.1 hp).1
      exact ⟨fun _ => hps, fun _ => (hc p o hp hqo).1 (hall p hps)⟩)
    rw [prefix_ L ops.size (Nat.le_refl _) (fun i hi => ⟨fun _ => hi, fun _ => hall i hi⟩), e] at F
    rw [e] at hK
    exact ⟨F, hK⟩
  have getD2 : ∀ (L : Array Bool) (i : Nat), i < L.size → L.getD i true = L.getD i false := fun L i hi => by simp [Array.getD, hi]
  intro fuel
  induction fuel with
  | zero =>
    intro L c κ φ w a hL hcnt hcl hc hcs F hR hK
    have hall := all_listed hcnt
    obtain ⟨F', hK'⟩ := fin L c κ φ w a (fun i hi => by rw [← getD2 L i (by omega)]; exact hall i (by omega)) hc hcs F hK
    refine ⟨?_, rfl, κ, φ, F', hR, hK'⟩
    cases hr : Region.ready .any ops L with
    | nil => rfl
    | cons i r =>
      obtain ⟨o, _, h1, h2, _⟩ := mem_ready (md := .any) (ops := ops) (L := L) (i := i) (by rw [hr]; simp)
      rw [hall i (by omega)] at h2; cases h2
  | succ fuel ih =>
    intro L c κ φ w a hL hcnt hcl hc hcs F hR hK
    refine ⟨fun hr => ?_, fun j hj => ?_⟩
    · have hall := ready_nil hL (fun j o ho => (quietOk_spec hq ho).1) hr
      obtain ⟨F', hK'⟩ := fin L c κ φ w a (fun i hi => by rw [← getD2 L i (by omega)]; exact hall i hi) hc hcs F hK
      exact ⟨rfl, κ, φ, F', hR, hK'⟩
    · obtain ⟨o, ho, hjn, hlj, hedges⟩ := mem_ready hj
      have hljf : L.getD j false = false := by rw [← getD2 L j (by omega)]; exact hlj
      obtain ⟨s1, s2⟩ := quietOk_spec hq ho
      -- what the loud ones tell
      have anc : ∀ p, Before ops p j → L.getD p false = true := fun p hp => hp.ready (L := fun i => L.getD i false) hcl (fun o' ho' e he hb => by rw [ho] at ho'; injection ho' with ho'; subst ho'; exact hedges e he hb)
      have desc : ∀ p, Before ops j p → L.getD p false = false := fun p hp => by
        cases hx : L.getD p false with
        | false => rfl
        | true => have := hp.done (L := fun i => L.getD i false) hcl hx; simp only [hljf] at this; cases this
      have hget : ∀ i, (L.setIfInBounds j true).getD i false = if i = j then true else L.getD i false := by
        intro i
        simp only [Array.getD_eq_getD_getElem?, Array.getElem?_setIfInBounds]
        by_cases e : i = j
        · subst e; have : i < L.size := by omega
          simp [this]
        · have : ¬ j = i := fun h => e h.symm
          simp [e, this]
      have hcl' : ∀ (j' : Nat) (o' : Oper), ops[j']? = some o' → (L.setIfInBounds j true).getD j' false = true → ∀ e ∈ o'.after, Region.binds .any e = true → (L.setIfInBounds j true).getD e.on false = true := by
        intro j' o' ho' hl' e he' hb'
        rw [hget] at hl' ⊢
        split
        · rfl
        · by_cases ej : j' = j
          · subst ej; rw [ho] at ho'; injection ho' with ho'; subst ho'; exact hedges e he' hb'
          · rw [if_neg ej] at hl'; exact hcl j' o' ho' hl' e he' hb'
      have hcount := count_set (L := L) (i := j) (by omega) hlj
      cases hqo : quietOp o with
      | true =>
        have eO : Os c = Os j := still2 c j hcs (by omega) (fun p q hp hqq => by
          have hps := (Array.getElem?_eq_some_iff.1 hp).1
          rcases Nat.lt_trichotomy p j with h | h | h
          · have := (hc p q hp hqq).1 (anc p ((lineOk_spec hl hp hqq).2 j hjn h)); omega
          · subst h; rw [ho] at hp; injection hp with hp; subst hp; rw [hqo] at hqq; cases hqq
          · have h1 := desc p ((lineOk_spec hl hp hqq).1 j h)
            have h2 := hc p q hp hqq
            rw [h1] at h2
            constructor
            · intro h3; have := h2.2 h3; cases this
            · intro h3; omega)
        rcases hrun.at_ j o (by simpa using ho) with ⟨_, hOO, v, cc, hqv, hcc, hRR⟩ | ⟨h, _⟩
        · simp only [Nat.zero_add] at hOO hqv hRR
          have hRf : (Rs (j + 1)).fn = setD (Rs j).fn o.dst v := by rw [hRR, putV_fn (fun d hd => (hdst j o d ho hd).2)]
          have k4 : ∀ d, o.dst = some d → (Rs ops.size).fn d = v := fun d hd => by
            rw [← after (j + 1) j d o (by omega) (by omega) ho hd, hRf]; exact setD_eq hd
          have same : ∀ d, d ∈ looks o ops → mixR ops (Rs 0).fn (Rs ops.size).fn L d = (Rs j).fn d := by
            intro d hd
            by_cases hw : ∃ (i : Nat) (p : Oper), ops[i]? = some p ∧ p.dst = some d
            · obtain ⟨i, p, hi, hp⟩ := hw
              rcases (s2 i p d hi hp).2 hd with ⟨hij, ed, he1, he2, he3⟩ | ⟨hij, ed, he1, he2, he3⟩
              · have hli : L.getD i false = true := by rw [← he2]; exact hedges ed he1 he3
                unfold mixR
                rw [if_pos ⟨i, p, hi, hp, hli⟩]
                exact (after j i d p hij (by omega) hi hp).symm
              · unfold mixR
                rw [if_neg (fun ⟨i', p', h1, h2, h3⟩ => by
                  have e := hnd i' i p' p d h1 hi h2 hp
                  subst e
                  rw [h1] at hi; injection hi with hi; subst hi
                  have := hcl i' p' h1 h3 ed he1 he3
                  rw [he2, hljf] at this; cases this)]
                exact (before j d (by omega) (fun i' p' h0 h1 h2 => by have := hnd i' i p' p d h1 hi h2 hp; omega)).symm
            · unfold mixR
              rw [if_neg (fun ⟨i, p, hi, hp, _⟩ => hw ⟨i, p, hi, hp⟩)]
              exact (before j d (by omega) (fun i p _ hp hpd => hw ⟨i, p, hp, hpd⟩)).symm
          have hqv' : qVal cf ops [] (mixR ops (Rs 0).fn (Rs ops.size).fn L) (Os c).fn o = some (v, cc, []) := by
            rw [← hqv, eO]
            have h1 : guardOf (mixR ops (Rs 0).fn (Rs ops.size).fn L) ops o = guardOf (Rs j).fn ops o := by
              unfold guardOf
              cases hgu : o.guard with
              | none => rfl
              | some p =>
                obtain ⟨g, want⟩ := p
                simp only
                cases hog : ops[g]? with
                | none => rfl
                | some gg =>
                  simp only
                  cases hgd : gg.dst with
                  | none => rfl
                  | some d =>
                    simp only
                    rw [same d (by simp only [looks, List.mem_append]; right; rw [hgu]; simp only [hog, hgd]; simp)]
            have h2 : exOp cf (mixR ops (Rs 0).fn (Rs ops.size).fn L) (Os j).fn 0 o = exOp cf (Rs j).fn (Os j).fn 0 o := exOp_congr fun x hx => rvOf_congr fun d hd => by
              subst hd
              refine same d ?_
              simp only [looks, List.mem_append, List.mem_filterMap]
              left
              exact ⟨.tmp d, by simpa using hx, rfl⟩
            unfold qVal
            rw [h1, h2]
          refine qVal_wp hcf F hqv' hcc (by simp) ho (guardsOk_spec hg) (fun a' w' κ' φ' g1 g2 g3 => ?_)
          have g1' : FRel κ' φ' w' { n := n, R := mixR ops (Rs 0).fn (Rs ops.size).fn (L.setIfInBounds j true), O := (Os c).fn, df := Df.df } a' := by rw [← mixR_set ho hL k4]; exact g1
          refine ih (L.setIfInBounds j true) c κ' φ' w' a' (by simpa using hL) (by omega) hcl' (fun p q hp hqq => ?_) hcs g1' (hR.trans g2) (hK.trans (g3.m m))
          rw [hget]
          by_cases e : p = j
          · subst e; rw [ho] at hp; injection hp with hp; subst hp; rw [hqo] at hqq; cases hqq
          · rw [if_neg e]; exact hc p q hp hqq
        · rw [hqo] at h; cases h
      | false =>
        obtain ⟨l1, l2⟩ := lineOk_spec hl ho hqo
        have hall : ∀ i, i < ops.size → (L.getD i false = true ↔ i < j) := by
          intro i hi
          rcases Nat.lt_trichotomy i j with h | h | h
          · exact ⟨fun _ => h, fun _ => anc i (l1 i h)⟩
          · subst h; rw [hljf]; exact ⟨fun h => (by cases h), fun h => absurd h (Nat.lt_irrefl _)⟩
          · have := desc i (l2 i hi h); rw [this]; exact ⟨fun h => (by cases h), fun h2 => by omega⟩
        have eO : Os c = Os j := still2 c j hcs (by omega) (fun p q hp hqq => by
          have hps := (Array.getElem?_eq_some_iff.1 hp).1
          rw [← hc p q hp hqq, hall p hps])
        rw [prefix_ L j (by omega) hall, eO] at F
        rw [eO] at hK
        rcases hrun.at_ j o (by simpa using ho) with ⟨h, _⟩ | ⟨_, vc, hvc, hv⟩
        · rw [hqo] at h; cases h
        · simp only [Nat.zero_add] at hv
          refine vOp_wp hcf hvc F hv ho (guardsOk_spec hg) hn (fun a' w' κ' φ' g1 g2 g3 => ?_)
          have hall' : ∀ i, i < ops.size → ((L.setIfInBounds j true).getD i false = true ↔ i < j + 1) := by
            intro i hi
            rw [hget]
            by_cases e : i = j
            · subst e; simp
            · rw [if_neg e, hall i hi]; omega
          have g1' : FRel κ' φ' w' { n := n, R := mixR ops (Rs 0).fn (Rs ops.size).fn (L.setIfInBounds j true), O := (Os (j + 1)).fn, df := Df.df } a' := by
            rw [prefix_ _ (j + 1) (by omega) hall']; exact g1
          exact ih (L.setIfInBounds j true) (j + 1) κ' φ' w' a' (by simpa using hL) (by omega) hcl' (fun p q hp hqq => hall' p (Array.getElem?_eq_some_iff.1 hp).1) (by omega) g1' (hR.trans g2) (hK.trans (g3.m m))
end Go.Am

/-
  The closed machine, quick for the kernel: continuations, and recursors whose branches are constants.
-/
namespace Go.Am
set_option linter.unusedSectionVars false
variable {P : Program} [Gl]

abbrev Ans := Option (RV × OT × Nat)
abbrev VK := RT → OT → Nat → Ans
abbrev Ins := RT → OT → Nat → VK → Ans
abbrev RK := RV → OT → Nat → Ans
abbrev FCall := Nat → List RV → OT → Nat → RK → Ans

noncomputable def rvF (x : Operand) : RT → RV :=
  Operand.rec (motive := fun _ => RT → RV) (fun t R => R.fn t) (fun v _ => match DV.ofVal v with | some x => .d x | none => .bot) (fun _ _ => .bot) (fun f _ => .clo (.func f) [] []) x
theorem rvF_eq (x : Operand) (R : RT) : rvF x R = rvOf R.fn x := by cases x <;> rfl

noncomputable def putF (dst : Option Nat) : RV → RT → RT :=
  Option.rec (motive := fun _ => RV → RT → RT) (fun _ R => R) (fun d v R => R.put d v) dst
theorem putF_eq (dst : Option Nat) (v : RV) (R : RT) : putF dst v R = putV R dst v := by cases dst <;> rfl

noncomputable def forceN (n : Nat) (k : Nat → Ans) : Ans := Nat.rec (motive := fun _ => Ans) (k 0) (fun m _ => k (Nat.succ m)) n
theorem forceN_eq (n : Nat) (k : Nat → Ans) : forceN n k = k n := by cases n <;> rfl

noncomputable def updK (u : List (Nat × PObj)) : OT → Nat → (OT → Nat → Ans) → Ans :=
  List.rec (motive := fun _ => OT → Nat → (OT → Nat → Ans) → Ans) (fun O nx k => k O nx)
    (fun h t _ O nx k => Bool.rec (motive := fun _ => Ans) none (forceN (bumpV nx (h :: t)) (k (setAllV O (h :: t)))) (smallV (h :: t))) u

noncomputable def resF (dst : Option Nat) (r : Option (Res × Bool)) : Ins :=
  Option.rec (motive := fun _ => Ins) (fun _ _ _ _ => none)
    (fun p => Prod.rec (motive := fun _ => Ins) (fun res _ => Res.rec (motive := fun _ => Ins)
      (fun v u c R O nx k => Bool.rec (motive := fun _ => Ans) none (updK u O nx (k (putF dst v R))) (allT c)) res) p) r

theorem resF_some {dst : Option Nat} {r : Option (Res × Bool)} {R : RT} {O : OT} {nx : Nat} {k : VK} {a} (h : resF dst r R O nx k = some a) :
    ∃ R' O' nx', resV R O nx dst r = some (R', O', nx') ∧ k R' O' nx' = some a := by
  cases r with
  | none => cases h
  | some p =>
    obtain ⟨⟨v, u, c⟩, b⟩ := p
    unfold resF at h
    simp only at h
    unfold resV
    cases hc : allT c with
    | false => rw [hc] at h; cases h
    | true =>
      rw [hc] at h
      simp only [hc, cond_true]
      cases u with
      | nil => exact ⟨_, _, _, rfl, by rw [← putF_eq]; exact h⟩
      | cons x t =>
        unfold updK at h
        simp only at h
        cases hs : smallV (x :: t) with
        | false => rw [hs] at h; cases h
        | true =>
          rw [hs] at h
          simp only [forceN_eq] at h
          simp only [cond_true]
          exact ⟨_, _, _, rfl, by rw [← putF_eq]; exact h⟩

noncomputable def fMove (x : Operand) (_ : Cfg) (_ : Nat → Bool) (_ : FCall) (o : Oper) : Ins := fun R O nx k => k (putF o.dst (rvF x R) R) O nx
noncomputable def fGen (cf : Cfg) (_ : Nat → Bool) (_ : FCall) (o : Oper) : Ins := fun R O nx k => resF o.dst (exOp cf R.fn O.fn nx o) R O nx k

noncomputable def fGo (cf : Cfg) (has : Nat → Bool) (call : FCall) (g : Nat) (dst : Option Nat) (args : List RV) : Ins := fun R O nx k =>
  Bool.rec (motive := fun _ => Ans) none
    (Option.rec (motive := fun _ => Ans) (call g args O nx (fun v O' nx' => k (putF dst v R) O' nx')) (fun res => resF dst (some (res, false)) R O nx k)
      (bif has g then exCallF cf.K (cf.byref g) O.fn nx g args else none)) (cf.callOk g)

noncomputable def fCallee (cf : Cfg) (has : Nat → Bool) (call : FCall) (dst : Option Nat) (args : RT → List RV) (f : RV) : Ins :=
  match f with
  | .clo (.func g) first caps => fun R O nx k => fGo cf has call g dst (first ++ args R ++ caps) R O nx k
  | _ => fun _ _ _ _ => none

noncomputable def argsF (l : List Operand) : RT → List RV :=
  List.rec (motive := fun _ => RT → List RV) (fun _ => []) (fun x _ ih R => rvF x R :: ih R) l
theorem argsF_eq (R : RT) : ∀ l : List Operand, argsF l R = l.map (rvOf R.fn)
  | [] => rfl
  | x :: r => by
    have := argsF_eq R r
    unfold argsF at this ⊢
    simp only [List.map_cons, ← this, ← rvF_eq]

noncomputable def fCallOp (c : Call) (cf : Cfg) (has : Nat → Bool) (call : FCall) (o : Oper) : Ins :=
  Callee.rec (motive := fun _ => Ins)
    (fun f => Operand.rec (motive := fun _ => Ins) (fun t R O nx k => fCallee cf has call o.dst (argsF c.args.toList) (R.fn t) R O nx k) (fun _ _ _ _ _ => none) (fun _ _ _ _ _ => none)
      (fun g R O nx k => fGo cf has call g o.dst (argsF c.args.toList R) R O nx k) f)
    (fun _ _ => fGen cf has call o) (fun _ => fGen cf has call o) c.callee

noncomputable def fBody (op : Op) : Cfg → (Nat → Bool) → FCall → Oper → Ins :=
  Op.rec (motive := fun _ => Cfg → (Nat → Bool) → FCall → Oper → Ins) fMove fMove (fun _ _ _ => fGen) (fun _ => fGen) (fun _ _ => fGen) (fun _ _ => fGen) (fun _ _ _ => fGen) (fun _ _ _ _ => fGen) (fun _ _ => fGen)
    (fun _ _ _ => fGen) (fun _ => fGen) (fun _ => fGen) (fun _ => fGen) (fun _ _ _ _ _ => fGen) (fun _ _ _ => fGen) (fun _ _ _ => fGen) (fun _ _ => fGen) (fun _ _ => fGen) (fun _ _ _ => fGen) (fun _ _ => fGen)
    (fun _ _ => fGen) (fun _ _ _ => fGen) (fun _ _ _ _ _ => fGen) (fun _ _ _ => fGen) (fun _ _ _ => fGen) (fun _ _ _ => fGen) (fun _ _ _ => fGen) (fun _ _ _ _ => fGen) (fun _ _ _ _ => fGen) (fun _ _ _ => fGen)
    (fun _ _ _ _ => fGen) (fun _ _ => fGen) (fun _ _ => fGen) (fun _ => fGen) (fun _ _ _ _ => fGen) (fun _ _ => fGen) fCallOp (fun _ => fGen) (fun _ => fGen) (fun _ => fGen) (fun _ _ => fGen) (fun _ _ _ => fGen) (fun _ _ => fGen) op

noncomputable def fOp (cf : Cfg) (has : Nat → Bool) (call : FCall) (ops : Array Oper) (o : Oper) : Ins :=
  Option.rec (motive := fun _ => Ins) (fBody o.op cf has call o)
    (fun _ R O nx k => Option.rec (motive := fun _ => Ans) none
      (fun b => Bool.rec (motive := fun _ => Ans) (k (putF o.dst .und R) O nx) (fBody o.op cf has call o R O nx k) b) (guardOf R.fn ops o)) o.guard

noncomputable def fOps (cf : Cfg) (has : Nat → Bool) (call : FCall) (ops : Array Oper) (l : List Oper) : Ins :=
  List.rec (motive := fun _ => Ins) (fun R O nx k => k R O nx) (fun o _ ih R O nx k => fOp cf has call ops o R O nx (fun R O nx => ih R O nx k)) l

def callOf (call : FCall) : VCall := fun g args O nx => call g args O nx (fun r O nx => some (r, O, nx))

noncomputable def stK (r : Option VSt) (k : VK) : Ans :=
  Option.rec (motive := fun _ => Ans) none (fun p => Prod.rec (motive := fun _ => Ans) (fun R q => Prod.rec (motive := fun _ => Ans) (fun O nx => forceN nx (k R O)) q) p) r

noncomputable def qK (r : Option (RV × List Bool × List (RV × RV))) (dst : Option Nat) : RT → (RT → Ans) → Ans :=
  Option.rec (motive := fun _ => RT → (RT → Ans) → Ans) (fun _ _ => none) (fun p => Prod.rec (motive := fun _ => RT → (RT → Ans) → Ans) (fun v q => Prod.rec (motive := fun _ => RT → (RT → Ans) → Ans)
    (fun c _ R k => Bool.rec (motive := fun _ => Ans) none (k (putF dst v R)) (allT c)) q) p) r

noncomputable def fLine (cf : Cfg) (has : Nat → Bool) (call : FCall) (ops : Array Oper) (l : List Oper) : Ins :=
  List.rec (motive := fun _ => Ins) (fun R O nx k => k R O nx) (fun o _ ih R O nx k => Bool.rec (motive := fun _ => Ans) (fOp cf has call ops o R O nx (fun R O nx => ih R O nx k)) (qK (qVal cf ops [] R.fn O.fn o) o.dst R (fun R => ih R O nx k)) (quietOp o)) l

noncomputable def fRegion (cf : Cfg) (has : Nat → Bool) (call : FCall) (n : Nat) (ops : Array Oper) (draw : Bool) : Ins :=
  Bool.rec (motive := fun _ => Ins)
    (fun R O nx k => Bool.rec (motive := fun _ => Ans) none (fOps cf has call ops ops.toList R O nx k) (guardsOk n ops))
    (Bool.rec (motive := fun _ => Ins) (fun R O nx k => stK (vRegion cf has (callOf call) n ops true R O nx) k) (fun R O nx k => fLine cf has call ops ops.toList R O nx k) (guardsOk n ops && quietOk ops && lineOk ops)) draw

/-- Where an exit goes. -/
noncomputable def exitF (id : Nat) (l : List (Nat × VK)) : VK :=
  List.rec (motive := fun _ => VK) (fun _ _ _ => none) (fun h _ ih => Prod.rec (motive := fun _ => VK) (fun j k => Bool.rec (motive := fun _ => VK) ih k (Nat.beq j id)) h) l

noncomputable def loopF (b : VK → VK) (fuel : Nat) : VK :=
  Nat.rec (motive := fun _ => VK) (fun _ _ _ => none) (fun _ ih => b ih) fuel

noncomputable def condF (v : RV) (x y : Ans) : Ans :=
  match v with
  | .d (.bool t) => Bool.rec (motive := fun _ => Ans) y x t
  | _ => none

noncomputable def fCode (cf : Cfg) (has : Nat → Bool) (call : FCall) (n fuel : Nat) (ret : VK) (c : Code) : List (Nat × VK) → VK → VK :=
  Code.rec (motive := fun _ => List (Nat × VK) → VK → VK)
    (fun _ k => k)
    (fun _ ops draw _ k R O nx => fRegion cf has call n ops draw R O nx k)
    (fun _ _ hx hy e k => hx e (hy e k))
    (fun c _ _ hx hy e k R O nx => condF (rvF c R) (hx e k R O nx) (hy e k R O nx))
    (fun id _ hb e k => hb ((id, k) :: e) k)
    (fun _ hb e _ => loopF (hb e) fuel)
    (fun _ _ _ _ _ _ _ _ _ _ _ => none)
    (fun id e _ => exitF id e)
    (fun _ hb e k => hb e k)
    (fun _ _ k => k)
    (fun _ _ _ _ _ _ => none)
    (fun _ _ => ret)
    (fun _ _ _ _ _ _ => none) c

noncomputable def retF (cf : Cfg) (res : List ResultVar) (kont : RK) : VK := fun R O nx =>
  Option.rec (motive := fun _ => Ans) none (fun vs => kont (one vs) O nx) (mapO (resVal cf.E R.fn O.fn) res)

end Go.Am

/-
  The quick closed machine is sound.
-/
namespace Go.Am
set_option linter.unusedSectionVars false
variable {P : Program} [Gl]
section
variable [Df]

def FSound (P : Program) (call : FCall) : Prop := ∀ g args O nx kont a, call g args O nx kont = some a → ∃ r O' nx', kont r O' nx' = some a ∧ GC P g args O.fn r O'.fn

theorem callOf_ok {call : FCall} (h : FSound P call) : VSound P (callOf call) := by
  intro g args O nx r O' nx' hc
  obtain ⟨r1, O1, nx1, h1, h2⟩ := h _ _ _ _ _ _ hc
  simp only [Option.some.injEq, Prod.mk.injEq] at h1
  obtain ⟨rfl, rfl, rfl⟩ := h1
  exact h2

open Classical in
noncomputable def oneCall (g : Nat) (args : List RV) (O : OT) (nx : Nat) (r : RV) (O' : OT) (nx' : Nat) : VCall := fun g1 a1 O1 n1 =>
  if g1 = g ∧ a1 = args ∧ O1 = O ∧ n1 = nx then some (r, O', nx') else none
theorem oneCall_ok {g : Nat} {args : List RV} {O : OT} {nx : Nat} {r : RV} {O' : OT} {nx' : Nat} (h : GC P g args O.fn r O'.fn) : VSound P (oneCall g args O nx r O' nx') := by
  intro g1 a1 O1 n1 r1 O1' n1' hc
  unfold oneCall at hc
  split at hc
  · rename_i hh
    obtain ⟨rfl, rfl, rfl, rfl⟩ := hh
    simp only [Option.some.injEq, Prod.mk.injEq] at hc
    obtain ⟨rfl, rfl, rfl⟩ := hc
    exact h
  · cases hc
theorem oneCall_at (g : Nat) (args : List RV) (O : OT) (nx : Nat) (r : RV) (O' : OT) (nx' : Nat) : oneCall g args O nx r O' nx' g args O nx = some (r, O', nx') := by
  unfold oneCall; rw [if_pos ⟨rfl, rfl, rfl, rfl⟩]

def noCall : VCall := fun _ _ _ _ => none
theorem noCall_ok : VSound P noCall := fun _ _ _ _ _ _ _ h => by cases h

/-- What is quick gives what the closed machine gives, with some sound calls. -/
def Agrees (P : Program) (cf : Cfg) (has : Nat → Bool) (ops : Array Oper) (o : Oper) (R : RT) (O : OT) (nx : Nat) (k : VK) (a : RV × OT × Nat) : Prop :=
  ∃ vc R' O' nx', VSound P vc ∧ vOp cf has vc ops R O nx o = some (R', O', nx') ∧ k R' O' nx' = some a

theorem move_ok {cf : Cfg} {has : Nat → Bool} (call : FCall) {ops : Array Oper} {o : Oper} {x : Operand} {R : RT} {O : OT} {nx : Nat} {k : VK} {a} (hg : guardOf R.fn ops o = some true) (ho : o.op = .move x ∨ o.op = .assign x)
    (h : fMove x cf has call o R O nx k = some a) : Agrees P cf has ops o R O nx k a := by
  refine ⟨noCall, putV R o.dst (rvOf R.fn x), O, nx, noCall_ok, ?_, ?_⟩
  · unfold vOp; rw [hg]; rcases ho with ho | ho <;> simp only [ho]
  · unfold fMove at h; rw [putF_eq, rvF_eq] at h; exact h

def isGen : Op → Bool
  | .move _ => false
  | .assign _ => false
  | .call c => match c.callee with
    | .value _ => false
    | _ => true
  | _ => true

theorem vOp_gen {cf : Cfg} {has : Nat → Bool} {vc : VCall} {ops : Array Oper} {o : Oper} {R : RT} {O : OT} {nx : Nat} (hg : guardOf R.fn ops o = some true) (ho : isGen o.op = true) :
    vOp cf has vc ops R O nx o = resV R O nx o.dst (exOp cf R.fn O.fn nx o) := by
  unfold vOp
  rw [hg]
  simp only
  cases hop : o.op <;> rw [hop] at ho <;> first | rfl | (simp [isGen] at ho; done) | skip
  rename_i c
  simp only [isGen] at ho
  cases hc : c.callee <;> rw [hc] at ho <;> first | (simp at ho; done) | (simp only [hc])

theorem gen_ok {cf : Cfg} {has : Nat → Bool} (call : FCall) {ops : Array Oper} {o : Oper} {R : RT} {O : OT} {nx : Nat} {k : VK} {a} (hg : guardOf R.fn ops o = some true) (ho : isGen o.op = true)
    (h : fGen cf has call o R O nx k = some a) : Agrees P cf has ops o R O nx k a := by
  obtain ⟨R', O', nx', h1, h2⟩ := resF_some h
  exact ⟨noCall, R', O', nx', noCall_ok, by rw [vOp_gen hg ho]; exact h1, h2⟩

theorem go_ok {cf : Cfg} {has : Nat → Bool} {call : FCall} (hs : FSound P call) {ops : Array Oper} {o : Oper} {c : Call} {f : Operand} {g : Nat} {first caps : List RV} {R : RT} {O : OT} {nx : Nat} {k : VK} {a} (hg : guardOf R.fn ops o = some true)
    (ho : o.op = .call c) (hc : c.callee = .value f) (hf : rvOf R.fn f = .clo (.func g) first caps)
    (h : fGo cf has call g o.dst (first ++ c.args.toList.map (rvOf R.fn) ++ caps) R O nx k = some a) : Agrees P cf has ops o R O nx k a := by
  unfold fGo at h
  have hv : ∀ vc, vOp cf has vc ops R O nx o = bif cf.callOk g then
            match (bif has g then exCallF cf.K (cf.byref g) O.fn nx g (first ++ c.args.toList.map (rvOf R.fn) ++ caps) else none) with
            | some res => resV R O nx o.dst (some (res, false))
            | none => match vc g (first ++ c.args.toList.map (rvOf R.fn) ++ caps) O nx with
              | some (v, O', nx') => some (putV R o.dst v, O', nx')
              | none => none
          else none := by
    intro vc
    unfold vOp
    rw [hg]
    simp only [ho, hc, hf]
    rfl
  cases hk : cf.callOk g with
  | false => rw [hk] at h; cases h
  | true =>
    rw [hk] at h
    simp only [hk, cond_true] at hv
    cases hx : (bif has g then exCallF cf.K (cf.byref g) O.fn nx g (first ++ c.args.toList.map (rvOf R.fn) ++ caps) else none) with
    | some res =>
      rw [hx] at h
      simp only [hx] at hv
      obtain ⟨R', O', nx', h1, h2⟩ := resF_some h
      exact ⟨noCall, R', O', nx', noCall_ok, by rw [hv]; exact h1, h2⟩
    | none =>
      rw [hx] at h
      simp only [hx] at hv
      obtain ⟨r, O', nx', h1, h2⟩ := hs _ _ _ _ _ _ h
      exact ⟨oneCall g (first ++ c.args.toList.map (rvOf R.fn) ++ caps) O nx r O' nx', putV R o.dst r, O', nx', oneCall_ok h2, by rw [hv, oneCall_at], by rw [← putF_eq]; exact h1⟩

theorem body_ok {cf : Cfg} {has : Nat → Bool} {call : FCall} (hs : FSound P call) {ops : Array Oper} {o : Oper} {R : RT} {O : OT} {nx : Nat} {k : VK} {a} (hg : guardOf R.fn ops o = some true)
    (h : fBody o.op cf has call o R O nx k = some a) : Agrees P cf has ops o R O nx k a := by
  generalize hop : o.op = op at h
  cases op with
  | move x => exact move_ok call hg (.inl hop) h
  | assign x => exact move_ok call hg (.inr hop) h
  | call c =>
    have h : fCallOp c cf has call o R O nx k = some a := h
    unfold fCallOp at h
    cases hc : c.callee with
    | invoke x y => rw [hc] at h; exact gen_ok call hg (by rw [hop]; simp [isGen, hc]) h
    | builtin b => rw [hc] at h; exact gen_ok call hg (by rw [hop]; simp [isGen, hc]) h
    | value f =>
      rw [hc] at h
      cases f with
      | const v => cases h
      | global v => cases h
      | func g =>
        have h : fGo cf has call g o.dst (argsF c.args.toList R) R O nx k = some a := h
        rw [argsF_eq] at h
        exact go_ok (first := []) (caps := []) hs hg hop hc rfl (by simpa using h)
      | tmp t =>
        have h : fCallee cf has call o.dst (argsF c.args.toList) (R.fn t) R O nx k = some a := h
        generalize hv : R.fn t = v at h
        unfold fCallee at h
        split at h
        · rename_i g first caps
          rw [argsF_eq] at h
          exact go_ok hs hg hop hc hv h
        · cases h
  | _ => exact gen_ok call hg (by rw [hop]; rfl) h

theorem op_ok {cf : Cfg} {has : Nat → Bool} {call : FCall} (hs : FSound P call) {ops : Array Oper} {o : Oper} {R : RT} {O : OT} {nx : Nat} {k : VK} {a}
    (h : fOp cf has call ops o R O nx k = some a) : Agrees P cf has ops o R O nx k a := by
  unfold fOp at h
  cases hg : o.guard with
  | none =>
    rw [hg] at h
    have : guardOf R.fn ops o = some true := by unfold guardOf; rw [hg]
    exact body_ok hs this h
  | some p =>
    rw [hg] at h
    simp only at h
    cases hb : guardOf R.fn ops o with
    | none => rw [hb] at h; cases h
    | some b =>
      rw [hb] at h
      cases b with
      | true => exact body_ok hs hb h
      | false =>
        refine ⟨noCall, putV R o.dst .und, O, nx, noCall_ok, ?_, ?_⟩
        · unfold vOp; rw [hb]
        · rw [← putF_eq]; exact h

theorem fOps_wp {cf : Cfg} (hcf : CfOk P cf) {has : Nat → Bool} {call : FCall} (hs : FSound P call) {ops : Array Oper} {n : Nat} (hn2 : n ≤ 512) (hg : guardsOk n ops = true) : ∀ (l : List Oper) (k : Nat) {R : RT} {O : OT} {nx : Nat} {kk : VK} {a},
    fOps cf has call ops l R O nx kk = some a → (∀ i o, l[i]? = some o → ops[k + i]? = some o) →
    ∃ R' O' nx', kk R' O' nx' = some a ∧ ∀ {κ : Kap} {φ : Phi} {w : World} {act : Act} {Q : Exit → Act → World → Prop}, FRel κ φ w (vst n R O) act →
      (∀ a' w' κ' φ', FRel κ' φ' w' (vst n R' O') a' → Fr κ w κ' w' → Kp φ O.fn φ' O'.fn → Q .normal a' w') → wpOps P ops Q (List.range' k l.length) act w
  | [], k, R, O, nx, kk, a, h, hl => ⟨R, O, nx, h, fun F hk => hk _ _ _ _ F (Fr.refl _ _) (Kp.refl _ _)⟩
  | o :: r, k, R, O, nx, kk, a, h, hl => by
    have h : fOp cf has call ops o R O nx (fun R O nx => fOps cf has call ops r R O nx kk) = some a := h
    obtain ⟨vc, R1, O1, nx1, hv, h1, h2⟩ := op_ok hs h
    obtain ⟨R2, O2, nx2, h3, h4⟩ := fOps_wp hcf hs hn2 hg r (k + 1) h2 (fun i o' hi => by have := hl (i + 1) o' (by simpa using hi); rw [← this]; congr 1; omega)
    refine ⟨R2, O2, nx2, h3, fun F hk => ?_⟩
    have hk0 : ops[k]? = some o := by simpa using hl 0 o rfl
    simp only [List.length_cons, List.range'_succ]
    rw [wpOps_cons]
    refine vOp_wp hcf hv F h1 hk0 (guardsOk_spec hg) hn2 (fun a' w' κ' φ' g1 g2 g3 => ?_)
    exact h4 g1 (fun a2 w2 κ2 φ2 k1 k2 k3 => hk a2 w2 κ2 φ2 k1 (g2.trans k2) (g3.trans k3))

/-- A state, with what the frame has deferred. -/
noncomputable def dst (n : Nat) (D : List (Nat × List RV)) (R : RT) (O : OT) : SSt := { n := n, R := R.fn, O := O.fn, df := D }

/-- Nothing is deferred. -/
noncomputable def finOf (k : VK) : List (Nat × List RV) → VK := fun D => List.rec (motive := fun _ => VK) k (fun _ _ _ _ _ _ => none) D

section
variable (P : Program) (n m : Nat) (fin : List (Nat × List RV) → VK)
/-- From here a run comes to its end, with this answer. -/
def Ends (k : List It) (R : RT) (O : OT) (a : RV × OT × Nat) : Prop := ∃ D R' O' nx', fin D R' O' nx' = some a ∧ WK P m k (vst n R O) (fun s => s = dst n D R' O')
def Good (k : List It) (kk : VK) : Prop := ∀ R O nx a, kk R O nx = some a → Ends P n m fin k R O a
def CtxOk (k : List It) (e : List (Nat × VK)) : Prop := ∀ id R O nx a, exitF id e R O nx = some a → ∃ k', exitT id k = some k' ∧ Ends P n m fin k' R O a
end

theorem stK_some {r : Option VSt} {k : VK} {a} (h : stK r k = some a) : ∃ R O nx, r = some (R, O, nx) ∧ k R O nx = some a := by
  cases r with
  | none => cases h
  | some p =>
    obtain ⟨R, O, nx⟩ := p
    refine ⟨R, O, nx, rfl, ?_⟩
    have h : forceN nx (k R O) = some a := h
    rw [forceN_eq] at h; exact h

theorem Ends.by {n m : Nat} {fin : List (Nat × List RV) → VK} {k k' : List It} {R R' : RT} {O O' : OT} {a} (h : Ends P n m fin k' R' O' a) (f : ∀ Q : SSt → Prop, WK P m k' (vst n R' O') Q → WK P m k (vst n R O) Q) : Ends P n m fin k R O a := by
  obtain ⟨D, R1, O1, nx1, h1, h2⟩ := h
  exact ⟨D, R1, O1, nx1, h1, f _ h2⟩

theorem fLine_run {cf : Cfg} {has : Nat → Bool} {call : FCall} (hs : FSound P call) {ops : Array Oper} : ∀ (l : List Oper) (k : Nat) {R : RT} {O : OT} {nx : Nat} {kk : VK} {a},
    fLine cf has call ops l R O nx kk = some a → ∃ Rs Os ns, LineRun P cf has ops l k Rs Os ns ∧ Rs k = R ∧ Os k = O ∧ ns k = nx ∧ kk (Rs (k + l.length)) (Os (k + l.length)) (ns (k + l.length)) = some a
  | [], k, R, O, nx, kk, a, h => ⟨fun _ => R, fun _ => O, fun _ => nx, ⟨fun j o hj => by simp at hj⟩, rfl, rfl, rfl, h⟩
  | o :: r, k, R, O, nx, kk, a, h => by
    have glue : ∀ (R1 : RT) (O1 : OT) (nx1 : Nat), fLine cf has call ops r R1 O1 nx1 kk = some a →
        ((quietOp o = true ∧ O1 = O ∧ ∃ v c, qVal cf ops [] R.fn O.fn o = some (v, c, []) ∧ (∀ x ∈ c, x = true) ∧ R1 = putV R o.dst v) ∨
          (quietOp o = false ∧ ∃ vc, VSound P vc ∧ vOp cf has vc ops R O nx o = some (R1, O1, nx1))) →
        ∃ Rs Os ns, LineRun P cf has ops (o :: r) k Rs Os ns ∧ Rs k = R ∧ Os k = O ∧ ns k = nx ∧ kk (Rs (k + (o :: r).length)) (Os (k + (o :: r).length)) (ns (k + (o :: r).length)) = some a := by
      intro R1 O1 nx1 h1 h2
      obtain ⟨Rs, Os, ns, g1, g2, g3, g4, g5⟩ := fLine_run hs r (k + 1) h1
      refine ⟨fun i => if i ≤ k then R else Rs i, fun i => if i ≤ k then O else Os i, fun i => if i ≤ k then nx else ns i, ⟨fun j o' hj => ?_⟩, by simp, by simp, by simp, ?_⟩
      · cases j with
        | zero =>
          simp at hj; subst hj
          simp only [Nat.add_zero, Nat.le_refl, if_true, show ¬ k + 1 ≤ k by omega, if_false, g2, g3, g4]
          exact h2
        | succ j =>
          have := g1.at_ j o' (by simpa using hj)
          simp only [show ¬ k + (j + 1) ≤ k by omega, show ¬ k + (j + 1) + 1 ≤ k by omega, if_false]
          rw [show k + (j + 1) = k + 1 + j by omega]
          exact this
      · simp only [List.length_cons, show ¬ k + (r.length + 1) ≤ k by omega, if_false]
        rw [show k + (r.length + 1) = k + 1 + r.length by omega]
        exact g5
    have h : Bool.rec (motive := fun _ => Ans) (fOp cf has call ops o R O nx (fun R O nx => fLine cf has call ops r R O nx kk)) (qK (qVal cf ops [] R.fn O.fn o) o.dst R (fun R => fLine cf has call ops r R O nx kk)) (quietOp o) = some a := h
    cases hq : quietOp o with
    | false =>
      rw [hq] at h
      obtain ⟨vc, R1, O1, nx1, hv, h1, h2⟩ := op_ok hs h
      exact glue R1 O1 nx1 h2 (.inr ⟨hq, vc, hv, h1⟩)
    | true =>
      rw [hq] at h
      simp only at h
      cases hqv : qVal cf ops [] R.fn O.fn o with
      | none => rw [hqv] at h; cases h
      | some p =>
        obtain ⟨v, c, e⟩ := p
        have he := qVal_es hqv
        subst he
        rw [hqv] at h
        unfold qK at h
        simp only at h
        cases hc : allT c with
        | false => rw [hc] at h; cases h
        | true =>
          rw [hc] at h
          simp only [putF_eq] at h
          exact glue _ _ _ h (.inl ⟨hq, rfl, v, c, hqv, allT_spec hc, rfl⟩)

theorem region_good {cf : Cfg} (hcf : CfOk P cf) (hmix : P.follows .mixedOrders = true) {has : Nat → Bool} {call : FCall} (hs : FSound P call) {n m id : Nat} (hn : n ≤ 512) {fin : List (Nat × List RV) → VK} {ops : Array Oper} {draw : Bool} {k : List It} {kk : VK}
    (hk : Good P n m fin k kk) : Good P n m fin (.code (.region id ops draw) :: k) (fun R O nx => fRegion cf has call n ops draw R O nx kk) := by
  intro R O nx a h
  unfold fRegion at h
  cases draw with
  | true =>
    simp only at h
    cases hl : (guardsOk n ops && quietOk ops && lineOk ops) with
    | false =>
      rw [hl] at h
      obtain ⟨R', O', nx', h1, h2⟩ := stK_some h
      exact (hk R' O' nx' a h2).by fun Q W => vRegion_wk hcf hmix (callOf_ok hs) hn h1 W
    | true =>
      rw [hl] at h
      simp only [Bool.and_eq_true] at hl
      obtain ⟨Rs, Os, ns, h1, rfl, rfl, rfl, h5⟩ := fLine_run hs ops.toList 0 h
      have hlen : 0 + ops.toList.length = ops.size := by simp
      rw [hlen] at h5
      refine (hk _ _ _ a h5).by fun Q W => WK.regionD (s' := vst n (Rs ops.size) (Os ops.size)) hmix (fun κ φ w a F => ?_) W
      refine line_any hcf hn hl.1.2 hl.1.1 hl.2 h1 ops.size (Array.replicate ops.size false) 0 κ φ w a (by simp) (by simp [List.countP_replicate]) (fun j o hj hl => by
        exfalso
        by_cases hi : j < ops.size <;> simp [Array.getD, hi] at hl) (fun p o hp hq => by
        have hps := (Array.getElem?_eq_some_iff.1 hp).1
        simp [Array.getD, hps]) (by omega) ?_ (Fr.refl _ _) (KpM.refl _ _ _)
      have : mixR ops (Rs 0).fn (Rs ops.size).fn (Array.replicate ops.size false) = (Rs 0).fn := by
        funext d
        unfold mixR
        rw [if_neg]
        rintro ⟨i, o, _, _, h3⟩
        by_cases hi : i < ops.size <;> simp [Array.getD, hi] at h3
      rw [this]; exact F
  | false =>
    simp only at h
    cases hg : guardsOk n ops with
    | false => rw [hg] at h; cases h
    | true =>
      rw [hg] at h
      obtain ⟨R', O', nx', h1, h2⟩ := fOps_wp hcf hs hn hg ops.toList 0 h (fun i o hi => by simpa using hi)
      refine (hk R' O' nx' a h1).by fun Q W => WK.region (s' := vst n R' O') (fun κ φ w a F => ?_) W
      have := h2 (Q := fun e a' w' => e = .normal ∧ ∃ κ' φ', FRel κ' φ' w' (vst n R' O') a' ∧ Fr κ w κ' w' ∧ KpM m φ (vst n R O).O φ' (vst n R' O').O) F
        (fun a' w' κ' φ' g1 g2 g3 => ⟨rfl, κ', φ', g1, g2, g3.m m⟩)
      rw [List.range_eq_range']
      simpa using this

theorem code_good {cf : Cfg} (hcf : CfOk P cf) (hmix : P.follows .mixedOrders = true) {has : Nat → Bool} {call : FCall} (hs : FSound P call) {n m : Nat} (hn : n ≤ 512) {fin : List (Nat × List RV) → VK} (fuel : Nat) : ∀ (c : Code) (k : List It) (e : List (Nat × VK)) (kk : VK),
    Good P n m fin k kk → CtxOk P n m fin k e → Good P n m fin (.code c :: k) (fCode cf has call n fuel (fin Df.df) c e kk)
  | .skip, k, e, kk, hk, he => fun R O nx a h => (hk R O nx a h).by fun _ W => WK.skip W
  | .region id ops draw, k, e, kk, hk, he => region_good hcf hmix hs hn hk
  | .seq x y, k, e, kk, hk, he => fun R O nx a h =>
    (code_good hcf hmix hs hn fuel x (.code y :: k) e _ (code_good hcf hmix hs hn fuel y k e kk hk he) (fun id R O nx a h => he id R O nx a h) R O nx a h).by fun _ W => WK.seq W
  | .cond c x y, k, e, kk, hk, he => fun R O nx a h => by
    have h : condF (rvF c R) (fCode cf has call n fuel (fin Df.df) x e kk R O nx) (fCode cf has call n fuel (fin Df.df) y e kk R O nx) = some a := h
    unfold condF at h
    split at h
    · rename_i t hc
      rw [rvF_eq] at hc
      cases t with
      | true => exact (code_good hcf hmix hs hn fuel x k e kk hk he R O nx a h).by fun _ W => WK.cond (t := true) hc W
      | false => exact (code_good hcf hmix hs hn fuel y k e kk hk he R O nx a h).by fun _ W => WK.cond (t := false) hc W
    · cases h
  | .block id b, k, e, kk, hk, he => fun R O nx a h => by
    refine (code_good hcf hmix hs hn fuel b (.blk id :: k) ((id, kk) :: e) kk (fun R O nx a h => (hk R O nx a h).by fun _ W => WK.blk W) (fun id' R O nx a h => ?_) R O nx a h).by fun _ W => WK.block W
    have h : Bool.rec (motive := fun _ => VK) (exitF id' e) kk (Nat.beq id id') R O nx = some a := h
    cases hb : Nat.beq id id' with
    | true =>
      rw [hb] at h
      exact ⟨k, by simp only [exitT, hb, cond_true], hk R O nx a h⟩
    | false =>
      rw [hb] at h
      obtain ⟨k', h1, h2⟩ := he id' R O nx a h
      exact ⟨k', by simp only [exitT, hb, cond_false]; exact h1, h2⟩
  | .loop b, k, e, kk, hk, he => fun R O nx a h => by
    have key : ∀ f, Good P n m fin (.code b :: .lp b :: k) (loopF (fCode cf has call n fuel (fin Df.df) b e) f) := by
      intro f
      induction f with
      | zero => intro R O nx a h; cases h
      | succ f ih => exact code_good hcf hmix hs hn fuel b (.lp b :: k) e _ (fun R O nx a h => (ih R O nx a h).by fun _ W => WK.again W) (fun id R O nx a h => he id R O nx a h)
    exact (key fuel R O nx a h).by fun _ W => WK.enter W
  | .rangeFunc _ _ _ _, k, e, kk, hk, he => fun R O nx a h => by cases h
  | .exit id, k, e, kk, hk, he => fun R O nx a h => by
    obtain ⟨k', h1, h2⟩ := he id R O nx a h
    exact h2.by fun _ W => WK.exit h1 W
  | .scope b, k, e, kk, hk, he => fun R O nx a h =>
    (code_good hcf hmix hs hn fuel b (.scp b :: k) e kk (fun R O nx a h => (hk R O nx a h).by fun _ W => WK.scp W) (fun id R O nx a h => he id R O nx a h) R O nx a h).by fun _ W => WK.scope W
  | .label _, k, e, kk, hk, he => fun R O nx a h => (hk R O nx a h).by fun _ W => WK.label W
  | .goto _, k, e, kk, hk, he => fun R O nx a h => by cases h
  | .ret, k, e, kk, hk, he => fun R O nx a h => ⟨Df.df, R, O, nx, h, WK.ret rfl⟩
  | .refuse _, k, e, kk, hk, he => fun R O nx a h => by cases h

end

end Go.Am

/-
  The quick closed machine with hooks: pieces of code for which a law of their own stands.
-/
namespace Go.Am
set_option linter.unusedSectionVars false
variable {P : Program} [Gl]
section
variable [Df]

abbrev Hook := Code → Code → Option (List (Nat × VK) → VK → VK)

noncomputable def fCodeH (hook : Hook) (cf : Cfg) (has : Nat → Bool) (call : FCall) (n fuel : Nat) (ret : VK) (c : Code) : List (Nat × VK) → VK → VK :=
  Code.rec (motive := fun _ => List (Nat × VK) → VK → VK)
    (fun _ k => k)
    (fun _ ops draw _ k R O nx => fRegion cf has call n ops draw R O nx k)
    (fun x y hx hy e k => Option.rec (motive := fun _ => VK) (hx e (hy e k)) (fun f => f e k) (hook x y))
    (fun c _ _ hx hy e k R O nx => condF (rvF c R) (hx e k R O nx) (hy e k R O nx))
    (fun id _ hb e k => hb ((id, k) :: e) k)
    (fun _ hb e _ => loopF (hb e) fuel)
    (fun _ _ _ _ _ _ _ _ _ _ _ => none)
    (fun id e _ => exitF id e)
    (fun _ hb e k => hb e k)
    (fun _ _ k => k)
    (fun _ _ _ _ _ _ => none)
    (fun _ _ => ret)
    (fun _ _ _ _ _ _ => none) c

noncomputable def fFunH (hooks : Nat → Hook) (fn : Nat → Option Func) (cf : Cfg) (has : Nat → Bool) (fuel : Nat) (call : FCall) : FCall := fun g args O nx kont =>
  Option.rec (motive := fun _ => Ans) none (fun f => Option.rec (motive := fun _ => Ans) none (fun body =>
    Bool.rec (motive := fun _ => Ans) none
      (fCodeH (hooks g) cf has call f.ntmps fuel (retF cf f.results.toList kont) body [] (retF cf f.results.toList kont) (argsV 0 args RT.nil) O nx)
      (Nat.ble args.length f.ntmps && Nat.ble f.ntmps 512)) f.body) (fn g)

/-- A piece of code. -/
inductive Sub (b : Code) : Code → Prop where
  | refl : Sub b b
  | seqL {x y : Code} (h : Sub b (.seq x y)) : Sub b x
  | seqR {x y : Code} (h : Sub b (.seq x y)) : Sub b y
  | condL {c : Operand} {x y : Code} (h : Sub b (.cond c x y)) : Sub b x
  | condR {c : Operand} {x y : Code} (h : Sub b (.cond c x y)) : Sub b y
  | block {i : Nat} {x : Code} (h : Sub b (.block i x)) : Sub b x
  | loop {x : Code} (h : Sub b (.loop x)) : Sub b x
  | scope {x : Code} (h : Sub b (.scope x)) : Sub b x

section
variable (P)
/-- A hook's law. -/
def HookOk (n m : Nat) (fin : List (Nat × List RV) → VK) (body : Code) (hook : Hook) : Prop := ∀ x y f, hook x y = some f → Sub body (.seq x y) → ∀ (k : List It) (e : List (Nat × VK)) (kk : VK), Good P n m fin k kk → CtxOk P n m fin k e → Good P n m fin (.code (.seq x y) :: k) (f e kk)
end

theorem codeH_good {hook : Hook} {cf : Cfg} (hcf : CfOk P cf) (hmix : P.follows .mixedOrders = true) {has : Nat → Bool} {call : FCall} (hs : FSound P call) {n m : Nat} (hn : n ≤ 512) {fin : List (Nat × List RV) → VK} {body : Code} (hh : HookOk P n m fin body hook) (fuel : Nat) : ∀ (c : Code) (_ : Sub body c) (k : List It) (e : List (Nat × VK)) (kk : VK),
    Good P n m fin k kk → CtxOk P n m fin k e → Good P n m fin (.code c :: k) (fCodeH hook cf has call n fuel (fin Df.df) c e kk)
  | .skip, hS, k, e, kk, hk, he => fun R O nx a h => (hk R O nx a h).by fun _ W => WK.skip W
  | .region id ops draw, hS, k, e, kk, hk, he => region_good hcf hmix hs hn hk
  | .seq x y, hS, k, e, kk, hk, he => fun R O nx a h => by
    have h : Option.rec (motive := fun _ => VK) (fCodeH hook cf has call n fuel (fin Df.df) x e (fCodeH hook cf has call n fuel (fin Df.df) y e kk)) (fun f => f e kk) (hook x y) R O nx = some a := h
    cases hx : hook x y with
    | none =>
      rw [hx] at h
      exact (codeH_good hcf hmix hs hn hh fuel x hS.seqL (.code y :: k) e _ (codeH_good hcf hmix hs hn hh fuel y hS.seqR k e kk hk he) (fun id R O nx a h => he id R O nx a h) R O nx a h).by fun _ W => WK.seq W
    | some f =>
      rw [hx] at h
      exact hh x y f hx hS k e kk hk he R O nx a h
  | .cond c x y, hS, k, e, kk, hk, he => fun R O nx a h => by
    have h : condF (rvF c R) (fCodeH hook cf has call n fuel (fin Df.df) x e kk R O nx) (fCodeH hook cf has call n fuel (fin Df.df) y e kk R O nx) = some a := h
    unfold condF at h
    split at h
    · rename_i t hc
      rw [rvF_eq] at hc
      cases t with
      | true => exact (codeH_good hcf hmix hs hn hh fuel x hS.condL k e kk hk he R O nx a h).by fun _ W => WK.cond (t := true) hc W
      | false => exact (codeH_good hcf hmix hs hn hh fuel y hS.condR k e kk hk he R O nx a h).by fun _ W => WK.cond (t := false) hc W
    · cases h
  | .block id b, hS, k, e, kk, hk, he => fun R O nx a h => by
    refine (codeH_good hcf hmix hs hn hh fuel b hS.block (.blk id :: k) ((id, kk) :: e) kk (fun R O nx a h => (hk R O nx a h).by fun _ W => WK.blk W) (fun id' R O nx a h => ?_) R O nx a h).by fun _ W => WK.block W
    have h : Bool.rec (motive := fun _ => VK) (exitF id' e) kk (Nat.beq id id') R O nx = some a := h
    cases hb : Nat.beq id id' with
    | true =>
      rw [hb] at h
      exact ⟨k, by simp only [exitT, hb, cond_true], hk R O nx a h⟩
    | false =>
      rw [hb] at h
      obtain ⟨k', h1, h2⟩ := he id' R O nx a h
      exact ⟨k', by simp only [exitT, hb, cond_false]; exact h1, h2⟩
  | .loop b, hS, k, e, kk, hk, he => fun R O nx a h => by
    have key : ∀ f, Good P n m fin (.code b :: .lp b :: k) (loopF (fCodeH hook cf has call n fuel (fin Df.df) b e) f) := by
      intro f
      induction f with
      | zero => intro R O nx a h; cases h
      | succ f ih => exact codeH_good hcf hmix hs hn hh fuel b hS.loop (.lp b :: k) e _ (fun R O nx a h => (ih R O nx a h).by fun _ W => WK.again W) (fun id R O nx a h => he id R O nx a h)
    exact (key fuel R O nx a h).by fun _ W => WK.enter W
  | .rangeFunc _ _ _ _, hS, k, e, kk, hk, he => fun R O nx a h => by cases h
  | .exit id, hS, k, e, kk, hk, he => fun R O nx a h => by
    obtain ⟨k', h1, h2⟩ := he id R O nx a h
    exact h2.by fun _ W => WK.exit h1 W
  | .scope b, hS, k, e, kk, hk, he => fun R O nx a h =>
    (codeH_good hcf hmix hs hn hh fuel b hS.scope (.scp b :: k) e kk (fun R O nx a h => (hk R O nx a h).by fun _ W => WK.scp W) (fun id R O nx a h => he id R O nx a h) R O nx a h).by fun _ W => WK.scope W
  | .label _, hS, k, e, kk, hk, he => fun R O nx a h => (hk R O nx a h).by fun _ W => WK.label W
  | .goto _, hS, k, e, kk, hk, he => fun R O nx a h => by cases h
  | .ret, hS, k, e, kk, hk, he => fun R O nx a h => ⟨Df.df, R, O, nx, h, WK.ret rfl⟩
  | .refuse _, hS, k, e, kk, hk, he => fun R O nx a h => by cases h

end

theorem fFunH_ok {cf : Cfg} (hcf : CfOk P cf) (hmix : P.follows .mixedOrders = true) {hooks : Nat → Hook} {fn : Nat → Option Func} (hks : ∀ g f body, fn g = some f → f.body = some body → ∀ fin, HookOk P f.ntmps 1048576 fin body (hooks g)) (hfn : ∀ g f, fn g = some f → P.funcs[g]? = some f) {has : Nat → Bool} {call : FCall} (hs : FSound P call) (fuel : Nat) : FSound P (fFunH hooks fn cf has fuel call) := by
  intro g args O nx kont a hk
  unfold fFunH at hk
  cases hf0 : fn g with
  | none => rw [hf0] at hk; cases hk
  | some f =>
    have hf := hfn g f hf0
    rw [hf0] at hk; simp only at hk
    cases hb : f.body with
    | none => rw [hb] at hk; cases hk
    | some body =>
      rw [hb] at hk; simp only at hk
      cases hg : (Nat.ble args.length f.ntmps && Nat.ble f.ntmps 512) with
      | false => rw [hg] at hk; cases hk
      | true =>
        rw [hg] at hk; simp only at hk
        simp only [Bool.and_eq_true] at hg
        have g1 := Nat.le_of_ble_eq_true hg.1
        have g2 := Nat.le_of_ble_eq_true hg.2
        have W := codeH_good (P := P) (m := 1048576) (fin := finOf (retF cf f.results.toList kont)) hcf hmix hs g2 (hks g f body hf0 hb _) fuel body .refl [] [] (retF cf f.results.toList kont) (fun R O nx a h => ⟨[], R, O, nx, h, WK.done rfl⟩)
          (fun id R O nx a h => by cases h) _ _ _ _ hk
        obtain ⟨D1, R1, O1, nx1, hret, W⟩ := W
        cases D1 with
        | cons => cases hret
        | nil =>
        have hret : retF cf f.results.toList kont R1 O1 nx1 = some a := hret
        unfold retF at hret
        cases hres : mapO (resVal cf.E R1.fn O1.fn) f.results.toList with
        | none => rw [hres] at hret; cases hret
        | some vs0 =>
          rw [hres] at hret
          refine ⟨one vs0, O1, nx1, hret, ?_⟩
          have hini : vst f.ntmps (argsV 0 args RT.nil) O = { n := f.ntmps, R := fun t => (args[t]?).getD .bot, O := O.fn } := by
            unfold vst
            rw [argsV_fn args 0 _ (by omega), RT.fn_nil]
            congr 1
            funext t
            simp only [Nat.not_lt_zero, if_false, Nat.zero_add, Nat.sub_zero]
            split
            · rfl
            · rw [List.getElem?_eq_none (by omega)]; rfl
          intro κ φ w vs h1 h2 h3 h4
          refine calls_of_body hf hb ?_
          have F : FRel κ φ w { n := f.ntmps, R := fun t => (args[t]?).getD .bot, O := O.fn } { tmps := vs ++ Array.replicate (f.ntmps - vs.size) undef, defers := [] } := by
            refine ⟨fun t => ?_, h1, h2, by simp; omega, trivial⟩
            by_cases ht : t < args.length
            · have e1 : args[t]? = some args[t] := by simp [ht]
              have e2 : vs[t]? = some vs[t] := by simp [show t < vs.size by omega]
              have e3 : (vs ++ Array.replicate (f.ntmps - vs.size) undef).getD t undef = vs[t] := by
                rw [Array.getD_eq_getD_getElem?, Array.getElem?_append_left (by omega), e2]; rfl
              simp only [e1, Option.getD_some, e3]
              exact h4 t _ _ e1 e2
            · have e1 : args[t]? = none := by simp; omega
              simp only [e1, Option.getD_none]; exact .bot _
          intro b cs
          rw [hini] at W
          obtain ⟨e, a', w', κ', φ', s', he, hs', F', R', K', harr⟩ := W κ φ w _ F b cs
          subst hs'
          refine ⟨e, a', w', he, ⟨DfR.nil F'.df, ?_⟩, harr⟩
          rw [hcf.E] at hres
          have hrun : ∃ us : List Value, (results f a'.tmps).run P w' = .ok (if hh : us.toArray.size = 1 then us.toArray[0] else .tuple us.toArray) w' ∧ us.length = vs0.length ∧
              ∀ (i : Nat) (x : RV) (v : Value), vs0[i]? = some x → us[i]? = some v → RVR κ' φ' O1.fn w'.heap x v := by
            have hdef : results f a'.tmps = (do
                let vs ← f.results.mapM (resG a'.tmps)
                pure (if h : vs.size = 1 then vs[0] else .tuple vs)) := by
              unfold results resG
              rfl
            obtain ⟨us, u1, u2, u3⟩ := results_ok F' (resG a'.tmps) (fun _ => rfl) (fun _ _ => rfl) _ vs0 hres
            refine ⟨us, ?_, u2, u3⟩
            rw [hdef]
            simp only [Sem.run_bind]
            rw [Array.mapM_eq_mapM_toList]
            simp only [Sem.run_map]
            rw [u1]; rfl
          obtain ⟨us, hrun, u2, u3⟩ := hrun
          have hlt : ∀ i, φ i ≠ .un → i < 1048576 := fun i hi => by
            rcases Nat.lt_or_ge i 1048576 with h | h
            · exact h
            · have := h1 i
              rw [OT.fn_big h] at this
              exact absurd this hi
          exact ⟨_, hrun, _, κ', φ', rfl, one_ok (by omega) u3, F'.objs, F'.bnd, R', ⟨fun i hi => K'.phi i (hlt i hi) hi, fun i n hi hn => K'.len i n (hlt i hi) hi hn⟩⟩

end Go.Am

/-
  A range loop over a map whose rounds change nothing: a hook for the closed machine.
-/
namespace Go.Am
set_option linter.unusedSectionVars false
variable {P : Program} [Gl] [Df]

/-- A block of others, that holds no cells, gets something else. -/
theorem FRel.othSet {κ : Kap} {φ : Phi} {w w' : World} {s : SSt} {a : Act} (F : FRel κ φ w s a) {b : Nat} {o o' : Obj} (hb : κ b = .oth) (ho : w.heap[b]? = some o) (hc : ∀ c ty fz, o ≠ .cells c ty fz)
    (hw : w'.heap = w.heap.setIfInBounds b o') : FRel κ φ w' s a := by
  have ne : ∀ x, x ≠ b → w'.heap[x]? = w.heap[x]? := fun x hx => by rw [hw, Array.getElem?_setIfInBounds_ne (fun e => hx e.symm)]
  have hsz : w'.heap.size = w.heap.size := by rw [hw]; simp
  have himm : ∀ x, κ x = .imm → κ x = .imm ∧ w'.heap[x]? = w.heap[x]? := fun x hx => ⟨hx, ne x (fun e => by subst e; rw [hb] at hx; cases hx)⟩
  have M : Mono κ φ s.O w.heap κ φ s.O w'.heap :=
    { imm := himm
      shp := fun x c ty fz hx => ⟨c, fz, by rw [ne x (fun e => by subst e; rw [ho] at hx; injection hx with hx; exact hc _ _ _ hx)]; exact hx, rfl⟩
      phi := fun _ _ => rfl
      len := fun _ _ _ h => h }
  refine ⟨fun t => (F.regs t).mono M, fun i => (F.objs i).mono M (fun x hx => ⟨hx, ne x (fun e => by subst e; rw [hb] at hx; cases hx)⟩) rfl, ⟨fun x hx => by rw [hsz]; exact F.bnd.lt x hx, fun p hp => ?_⟩, F.n, F.df.mono M⟩
  obtain ⟨h1, ty, fz, h2⟩ := F.bnd.gl p hp
  exact ⟨h1, ty, fz, by rw [ne p.1 (fun e => by rw [e, ho] at h2; injection h2 with h2; exact hc _ _ _ h2)]; exact h2⟩

/-- Less is said of some registers. -/
noncomputable def forget (ws : List Nat) (R : RT) : RT := ws.foldl (fun R t => R.put t .bot) R

/-- A register of which nothing is said gets any value. -/
theorem FRel.putBot {κ : Kap} {φ : Phi} {w : World} {s : SSt} {a : Act} (F : FRel κ φ w s a) {d : Nat} (hd : d < s.n) (hb : s.R d = .bot) (v : Value) : FRel κ φ w s (a.put (some d) v) := by
  have := F.put (d := d) (rv := .bot) (v := v) hd (.bot _)
  have e : ({ s with R := setR s.R d .bot } : SSt) = s := by
    have : setR s.R d .bot = s.R := by
      funext t
      simp only [setR]
      split
      · rename_i h; rw [h, hb]
      · rfl
    rw [this]
  rw [e] at this
  exact this

theorem put_same {a : Act} {n d : Nat} {v : Value} (hn : a.tmps.size = n) (hd : d < n) : (a.put (some d) v).eval (.tmp d) = v := by
  show (a.put (some d) v).tmps.getD d undef = v
  rw [getD_put, if_pos ⟨rfl, by rw [hn]; exact hd⟩]
theorem put_other {a : Act} {d t : Nat} {v : Value} (h : t ≠ d) : (a.put (some d) v).eval (.tmp t) = a.eval (.tmp t) := by
  show (a.put (some d) v).tmps.getD t undef = a.tmps.getD t undef
  rw [getD_put, if_neg (fun e => h e.1)]
theorem put_size (a : Act) (d : Nat) (v : Value) : (a.put (some d) v).tmps.size = a.tmps.size := by simp [Act.put]

/-- The operations of a round. -/
structure RgOps where
  it : Nat
  nx : Nat
  tb : Nat
  en : Nat
  ke : Nat
  kv : Nat
  a1 : Nat
  a2 : Nat
  tg : Nat
  pg : Nat

def RgOps.ws (g : RgOps) : List Nat := [g.it, g.nx, g.tb, g.en, g.ke, g.kv, g.a1, g.a2, g.tg]

/-- The step to the next entry, or to the end. -/
theorem next_ops {ops : Array Oper} {o0 o1 : Oper} (ho : ops = #[o0, o1]) {g : RgOps} (h0 : o0.op = .next (.tmp g.it) false) (d0 : o0.dst = some g.nx) (g0 : o0.guard = none)
    (h1 : o1.op = .extract (.tmp g.nx) 0) (d1 : o1.dst = some g.tb) (g1 : o1.guard = none) {a : Act} {w w' : World} {n : Nat} (hn : a.tmps.size = n) (hnx : g.nx < n) {t : Bool} {vs : Array Value} {bp : Value}
    (hit : a.eval (.tmp g.it) = bp) (hv0 : vs[0]? = some (.bool t)) (hr : (Instr.next bp false o0.type).run P w = .ok (.tuple vs) w') :
    wpOps P ops (fun e a' w2 => e = .normal ∧ w2 = w' ∧ a' = (a.put (some g.nx) (.tuple vs)).put (some g.tb) (.bool t)) (List.range ops.size) a w := by
  subst ho
  have hsz : (#[o0, o1] : Array Oper).size = 2 := rfl
  rw [hsz]
  show wpOps P #[o0, o1] _ [0, 1] a w
  rw [wpOps_cons]
  unfold wpOp
  have e0 : (#[o0, o1] : Array Oper)[0]? = some o0 := rfl
  rw [e0]
  simp only [Region.wanted, g0, if_true]
  left
  refine wp_value (v := .tuple vs) (w' := w') ?_ ?_
  · simp only [execOp, h0, hit, Sem.run_bind, hr, Result.andThen_ok, Sem.run_pure]
  · rw [d0, wpOps_cons]
    unfold wpOp
    have e1 : (#[o0, o1] : Array Oper)[1]? = some o1 := rfl
    rw [e1]
    simp only [Region.wanted, g1, if_true]
    left
    refine wp_value (v := .bool t) (w' := w') ?_ ?_
    · have hx : (a.put (some g.nx) (.tuple vs)).eval (.tmp g.nx) = .tuple vs := put_same hn hnx
      simp only [execOp, h1, hx]
      simp [Instr.extract, hv0]
    · rw [d1]; exact ⟨rfl, rfl, rfl⟩

/-- One plain operation of a region. -/
theorem wpOps_val {ops : Array Oper} {Q : Exit → Act → World → Prop} {i : Nat} {rest : List Nat} {o : Oper} (hi : ops[i]? = some o) (hg : o.guard = none) {d : Nat} (hd : o.dst = some d) {a : Act} {w w' : World} {v : Value}
    (hr : (execOp a.eval o).run P w = .ok (.value v) w') (h : wpOps P ops Q rest (a.put (some d) v) w') : wpOps P ops Q (i :: rest) a w := by
  rw [wpOps_cons]
  unfold wpOp
  rw [hi]
  simp only [Region.wanted, hg, if_true]
  left
  exact wp_value hr (by rw [hd]; exact h)

/-- The entry that was given last. -/
theorem entry_ops {ops : Array Oper} {o0 o1 o2 : Oper} (ho : ops = #[o0, o1, o2]) {g : RgOps} (h0 : o0.op = .entry (.tmp g.it)) (d0 : o0.dst = some g.en) (g0 : o0.guard = none)
    (h1 : o1.op = .extract (.tmp g.en) 0) (d1 : o1.dst = some g.ke) (g1 : o1.guard = none) (h2 : o2.op = .assign (.tmp g.ke)) (d2 : o2.dst = some g.kv) (g2 : o2.guard = none)
    {a : Act} {w : World} {n : Nat} (hn : a.tmps.size = n) (hen : g.en < n) (hke : g.ke < n) {k v bp : Value} (hit : a.eval (.tmp g.it) = bp) (hr : (Instr.entry bp).run P w = .ok (.tuple #[k, v]) w) :
    wpOps P ops (fun e a' w2 => e = .normal ∧ w2 = w ∧ a' = ((a.put (some g.en) (.tuple #[k, v])).put (some g.ke) k).put (some g.kv) k) (List.range ops.size) a w := by
  subst ho
  show wpOps P #[o0, o1, o2] _ [0, 1, 2] a w
  refine wpOps_val (o := o0) rfl g0 d0 (v := .tuple #[k, v]) (w' := w) ?_ (wpOps_val (o := o1) rfl g1 d1 (v := k) (w' := w) ?_ (wpOps_val (o := o2) rfl g2 d2 (v := k) (w' := w) ?_ ⟨rfl, rfl, rfl⟩))
  · simp only [execOp, h0, hit, Sem.run_bind, hr, Result.andThen_ok, Sem.run_pure]
  · have hx : (a.put (some g.en) (.tuple #[k, v])).eval (.tmp g.en) = .tuple #[k, v] := put_same hn hen
    simp only [execOp, h1, hx]
    simp [Instr.extract]
  · have hx : ((a.put (some g.en) (.tuple #[k, v])).put (some g.ke) k).eval (.tmp g.ke) = k := put_same (by rw [put_size]; exact hn) hke
    simp only [execOp, h2, hx]
    rfl

/-- The key is not greater. -/
theorem cmp_ops {ops : Array Oper} {o0 o1 o2 : Oper} {T T2 : TypeId} (ho : ops = #[o0, o1, o2]) {g : RgOps} (h0 : o0.op = .move (.tmp g.kv)) (d0 : o0.dst = some g.a1) (g0 : o0.guard = none)
    (h1 : o1.op = .move (.tmp g.pg)) (d1 : o1.dst = some g.a2) (g1 : o1.guard = none) (h2 : o2.op = .binOp .gtr T (.tmp g.a1) (.tmp g.a2) T2) (d2 : o2.dst = some g.tg) (g2 : o2.guard = none)
    {a : Act} {w : World} {n : Nat} (hn : a.tmps.size = n) (ha1 : g.a1 < n) (ha2 : g.a2 < n) (hne : g.pg ≠ g.a1) (hne2 : g.a1 ≠ g.a2) {k p : Int} (hk : a.eval (.tmp g.kv) = .int .i64 k) (hp : a.eval (.tmp g.pg) = .int .i64 p) (hle : k ≤ p) :
    wpOps P ops (fun e a' w2 => e = .normal ∧ w2 = w ∧ a' = ((a.put (some g.a1) (.int .i64 k)).put (some g.a2) (.int .i64 p)).put (some g.tg) (.bool false)) (List.range ops.size) a w := by
  subst ho
  show wpOps P #[o0, o1, o2] _ [0, 1, 2] a w
  refine wpOps_val (o := o0) rfl g0 d0 (v := .int .i64 k) (w' := w) ?_ (wpOps_val (o := o1) rfl g1 d1 (v := .int .i64 p) (w' := w) ?_ (wpOps_val (o := o2) rfl g2 d2 (v := .bool false) (w' := w) ?_ ⟨rfl, rfl, rfl⟩))
  · simp only [execOp, h0, hk]; rfl
  · have hx : (a.put (some g.a1) (.int .i64 k)).eval (.tmp g.pg) = .int .i64 p := by rw [put_other hne]; exact hp
    simp only [execOp, h1, hx]; rfl
  · have hx : ((a.put (some g.a1) (.int .i64 k)).put (some g.a2) (.int .i64 p)).eval (.tmp g.a2) = .int .i64 p := put_same (by rw [put_size]; exact hn) ha2
    have hy : ((a.put (some g.a1) (.int .i64 k)).put (some g.a2) (.int .i64 p)).eval (.tmp g.a1) = .int .i64 k := by rw [put_other hne2]; exact put_same hn ha1
    have hlt : ¬ p < k := by omega
    simp only [execOp, h2, hx, hy]
    simp [eqGuard, binOp, Op.intCmp, hlt]

/-- The shape of such a loop. -/
structure RgCode where
  r7 : Nat
  ops7 : Array Oper
  id0 : Nat
  id1 : Nat
  r8 : Nat
  ops8 : Array Oper
  r9 : Nat
  ops9 : Array Oper
  del : Code

def RgCode.body (c : RgCode) (g : RgOps) : Code :=
  .seq (.region c.r7 c.ops7 false) (.seq (.cond (.tmp g.tb) .skip (.exit c.id0)) (.block c.id1 (.seq (.region c.r8 c.ops8 false) (.seq (.region c.r9 c.ops9 false) (.cond (.tmp g.tg) c.del .skip)))))

structure RgOk (c : RgCode) (g : RgOps) (n : Nat) : Prop where
  o7 : ∃ o0 o1, c.ops7 = #[o0, o1] ∧ o0.op = .next (.tmp g.it) false ∧ o0.dst = some g.nx ∧ o0.guard = none ∧ o1.op = .extract (.tmp g.nx) 0 ∧ o1.dst = some g.tb ∧ o1.guard = none
  o8 : ∃ o0 o1 o2, c.ops8 = #[o0, o1, o2] ∧ o0.op = .entry (.tmp g.it) ∧ o0.dst = some g.en ∧ o0.guard = none ∧ o1.op = .extract (.tmp g.en) 0 ∧ o1.dst = some g.ke ∧ o1.guard = none ∧ o2.op = .assign (.tmp g.ke) ∧ o2.dst = some g.kv ∧ o2.guard = none
  o9 : ∃ o0 o1 o2 T T2, c.ops9 = #[o0, o1, o2] ∧ o0.op = .move (.tmp g.kv) ∧ o0.dst = some g.a1 ∧ o0.guard = none ∧ o1.op = .move (.tmp g.pg) ∧ o1.dst = some g.a2 ∧ o1.guard = none ∧ o2.op = .binOp .gtr T (.tmp g.a1) (.tmp g.a2) T2 ∧ o2.dst = some g.tg ∧ o2.guard = none
  lt : ∀ d ∈ g.ws, d < n
  pgw : g.pg ∉ g.ws
  nodup : g.ws.Nodup

theorem reg_steps {id : Nat} {ops : Array Oper} {a a1 : Act} {w w' : World} (h : wpOps P ops (fun e a' w2 => e = .normal ∧ w2 = w' ∧ a' = a1) (List.range ops.size) a w) (fr : Frame) (k : List Item) (cs : List Frame) :
    Steps P (lone (fr.at a (.code (.region id ops false) :: k)) cs w) (lone (fr.at a1 k) cs w') := by
  obtain ⟨e, a2, w2, ⟨rfl, rfl, rfl⟩, harr⟩ := wp_region (id := id) h fr k cs
  exact harr

theorem rg_loop {c : RgCode} {g : RgOps} {n m : Nat} (hc : RgOk c g n) {K : List It} {Q : SSt → Prop} {s : SSt} (hsn : s.n = n) (hbot : ∀ d ∈ g.ws, d ≠ g.it → s.R d = .bot) {p : Int} (hpg : s.R g.pg = .d (.int .i64 p))
    (hK : WK P m K s Q) {κ0 : Kap} {w0 : World} {φ0 : Phi} {O0 : Tab} {b mb since clock : Nat} {mes : Array MapEntry} (hb0 : w0.heap.size ≤ b) (hold : ∀ x ∈ mes.toList, x.born < since) (hnd : (mes.toList.map (·.born)).Nodup)
    (hle : ∀ x ∈ mes.toList, ∃ k : Int, x.key = .int .i64 k ∧ k ≤ p) (hne : mb ≠ b) :
    ∀ (fuel : Nat) (κ : Kap) (φ : Phi) (w : World) (a : Act) (seen : Array Nat) (c0 : Nat), (leftOf mes seen).size = fuel → FRel κ φ w s a → Fr κ0 w0 κ w → KpM m φ0 O0 φ s.O → κ b = .oth →
      w.heap[b]? = some (.mapIter (some mb) since seen c0) → since ≤ c0 → w.heap[mb]? = some (.map mes clock) → since ≤ clock → a.eval (.tmp g.it) = .pointer (some ⟨b, 0, none⟩) →
      ∀ (fr : Frame) (cs : List Frame), ∃ e a' w' κ' φ' s', (e = .normal ∨ e = .ret) ∧ Q s' ∧ FRel κ' φ' w' s' a' ∧ Fr κ0 w0 κ' w' ∧ KpM m φ0 O0 φ' s'.O ∧
        Arrives P (lone (fr.at a ((.code (c.body g) :: .lp (c.body g) :: .blk c.id0 :: K).map It.item)) cs w) fr [] cs e a' w' := by
  obtain ⟨p0, p1, e7, p2, p3, p4, p5, p6, p7⟩ := hc.o7
  obtain ⟨q0, q1, q2, e8, q3, q4, q5, q6, q7, q8, q9, q10, q11⟩ := hc.o8
  obtain ⟨t0, t1, t2, T, T2, e9, t3, t4, t5, t6, t7, t8, t9, t10, t11⟩ := hc.o9
  have hw := hc.lt
  have hnodup := hc.nodup
  have hpgw := hc.pgw
  simp only [RgOps.ws, List.mem_cons, List.mem_nil_iff, or_false, forall_eq_or_imp, forall_eq] at hw hbot
  simp only [RgOps.ws, List.nodup_cons, List.mem_cons, List.mem_nil_iff, or_false, not_or] at hnodup
  simp only [RgOps.ws, List.mem_cons, List.mem_nil_iff, or_false, not_or] at hpgw
  obtain ⟨l1, l2, l3, l4, l5, l6, l7, l8, l9⟩ := hw
  obtain ⟨-, u2, u3, u4, u5, u6, u7, u8, u9⟩ := hbot
  obtain ⟨⟨n12, n13, n14, n15, n16, n17, n18, n19⟩, ⟨n23, n24, n25, n26, n27, n28, n29⟩, ⟨n34, n35, n36, n37, n38, n39⟩, ⟨n45, n46, n47, n48, n49⟩, ⟨n56, n57, n58, n59⟩, ⟨n67, n68, n69⟩, ⟨n78, n79⟩, n89, -⟩ := hnodup
  have r2 := u2 (fun e => n12 e.symm)
  have r3 := u3 (fun e => n13 e.symm)
  have r4 := u4 (fun e => n14 e.symm)
  have r5 := u5 (fun e => n15 e.symm)
  have r6 := u6 (fun e => n16 e.symm)
  have r7 := u7 (fun e => n17 e.symm)
  have r8 := u8 (fun e => n18 e.symm)
  have r9 := u9 (fun e => n19 e.symm)
  intro fuel
  induction fuel using Nat.strongRecOn with
  | _ fuel ih =>
    intro κ φ w a seen c0 hfuel F hR hKp hκ hr hsc hm hsk hit fr cs
    have hn : a.tmps.size = n := by rw [F.n]; exact hsn
    have start : ∀ {a1 : Act} {w1 : World}, wpOps P c.ops7 (fun e a' w2 => e = .normal ∧ w2 = w1 ∧ a' = a1) (List.range c.ops7.size) a w →
        Steps P (lone (fr.at a ((.code (c.body g) :: .lp (c.body g) :: .blk c.id0 :: K).map It.item)) cs w)
          (lone (fr.at a1 (.code (.seq (.cond (.tmp g.tb) .skip (.exit c.id0)) (.block c.id1 (.seq (.region c.r8 c.ops8 false) (.seq (.region c.r9 c.ops9 false) (.cond (.tmp g.tg) c.del .skip))))) :: .inLoop (c.body g) :: .inBlock c.id0 :: K.map It.item)) cs w1) := by
      intro a1 w1 h
      refine Steps.trans (.one step_seq) ?_
      exact reg_steps h fr _ cs
    rcases Go.run_next_at w p0.type b mb since c0 seen mes clock hr hm hold hsc with ⟨_, hrun⟩ | ⟨e, he, w1, hw1, hrun⟩
    · have h7 := next_ops (P := P) e7 p2 p3 p4 p5 p6 p7 hn l2 hit (t := false) rfl hrun
      have F1 : FRel κ φ w s ((a.put (some g.nx) (.tuple #[.bool false])).put (some g.tb) (.bool false)) := (F.putBot (by rw [hsn]; exact l2) r2 _).putBot (by rw [hsn]; exact l3) r3 _
      obtain ⟨e', a', w', κ', φ', s', h1, h2, h3, h4, h5, h6⟩ := hK κ φ w _ F1 fr cs
      refine ⟨e', a', w', κ', φ', s', h1, h2, h3, hR.trans h4, hKp.trans h5, h6.of_steps ?_⟩
      refine Steps.trans (start h7) (Steps.trans (.one step_seq) (Steps.trans (.one (step_cond (t := false) (put_same (by rw [put_size]; exact hn) l3))) ?_))
      refine .one (step_exit ?_)
      simp [exitTo]
    · obtain ⟨hme, _⟩ := Go.mem_left he
      obtain ⟨kk, hkk, hkp⟩ := hle e hme
      have hh : (ChangeMaps.setBlock w1 b (.mapIter (some mb) since (seen.push e.born) clock)).heap = w.heap.setIfInBounds b (.mapIter (some mb) since (seen.push e.born) clock) := by
        rcases hw1 with rfl | rfl <;> rfl
      have hos : (ChangeMaps.setBlock w1 b (.mapIter (some mb) since (seen.push e.born) clock)).os = w.os ∧ (ChangeMaps.setBlock w1 b (.mapIter (some mb) since (seen.push e.born) clock)).output = w.output := by
        rcases hw1 with rfl | rfl <;> exact ⟨rfl, rfl⟩
      generalize ChangeMaps.setBlock w1 b (.mapIter (some mb) since (seen.push e.born) clock) = w2 at hrun hh hos
      have hlt := (Array.getElem?_eq_some_iff.1 hr).1
      have hb2 : w2.heap[b]? = some (.mapIter (some mb) since (seen.push e.born) clock) := by rw [hh]; simp [hlt]
      have hm2 : w2.heap[mb]? = some (.map mes clock) := by rw [hh, Array.getElem?_setIfInBounds_ne (fun e => hne e.symm)]; exact hm
      have ne : ∀ x, x ≠ b → w2.heap[x]? = w.heap[x]? := fun x hx => by rw [hh, Array.getElem?_setIfInBounds_ne (fun e => hx e.symm)]
      have F2 : FRel κ φ w2 s a := F.othSet hκ hr (by intro c ty fz h; cases h) hh
      have hR2 : Fr κ0 w0 κ w2 := by
        refine ⟨by rw [hh]; simpa using hR.size, fun x hx => ?_, fun x hx ho => ?_, fun x c ty fz hx => ?_, hos.1.trans hR.os, hos.2.trans hR.out⟩
        · obtain ⟨a1, a2⟩ := hR.imm x hx
          exact ⟨a1, (ne x (fun e => by subst e; rw [hκ] at a1; cases a1)).trans a2⟩
        · obtain ⟨a1, a2⟩ := hR.oth x hx ho
          exact ⟨a1, (ne x (by omega)).trans a2⟩
        · obtain ⟨c', fz', a1, a2⟩ := hR.shp x c ty fz hx
          have := (Array.getElem?_eq_some_iff.1 hx).1
          exact ⟨c', fz', (ne x (by omega)).trans a1, a2⟩
      have hpv : a.eval (.tmp g.pg) = .int .i64 p := by
        have := F.regs g.pg
        rw [hpg] at this
        show a.tmps.getD g.pg undef = _
        generalize a.tmps.getD g.pg undef = v at this
        cases this with
        | d h => cases h; rfl
      have h7 := next_ops (P := P) e7 p2 p3 p4 p5 p6 p7 hn l2 hit (t := true) rfl hrun
      have hn2 : ((a.put (some g.nx) (.tuple #[.bool true, e.key, e.val])).put (some g.tb) (.bool true)).tmps.size = n := by rw [put_size, put_size]; exact hn
      have hit2 : ((a.put (some g.nx) (.tuple #[.bool true, e.key, e.val])).put (some g.tb) (.bool true)).eval (.tmp g.it) = .pointer (some ⟨b, 0, none⟩) := by
        rw [put_other n13, put_other n12]; exact hit
      have hp2 : ((a.put (some g.nx) (.tuple #[.bool true, e.key, e.val])).put (some g.tb) (.bool true)).eval (.tmp g.pg) = .int .i64 p := by
        rw [put_other hpgw.2.2.1, put_other hpgw.2.1]; exact hpv
      have F3 : FRel κ φ w2 s ((a.put (some g.nx) (.tuple #[.bool true, e.key, e.val])).put (some g.tb) (.bool true)) := (F2.putBot (by rw [hsn]; exact l2) r2 _).putBot (by rw [hsn]; exact l3) r3 _
      have htb : ((a.put (some g.nx) (.tuple #[.bool true, e.key, e.val])).put (some g.tb) (.bool true)).eval (.tmp g.tb) = .bool true := put_same (by rw [put_size]; exact hn) l3
      have first := start h7
      generalize (a.put (some g.nx) (.tuple #[.bool true, e.key, e.val])).put (some g.tb) (.bool true) = a2 at hn2 hit2 hp2 F3 htb first
      have h8 := entry_ops (P := P) e8 q3 q4 q5 q6 q7 q8 q9 q10 q11 hn2 l4 l5 hit2 (Go.run_entry_at w2 b mb since seen mes clock e hb2 hm2 hme hnd)
      have hn3 : (((a2.put (some g.en) (.tuple #[e.key, e.val])).put (some g.ke) e.key).put (some g.kv) e.key).tmps.size = n := by rw [put_size, put_size, put_size]; exact hn2
      have hk3 : (((a2.put (some g.en) (.tuple #[e.key, e.val])).put (some g.ke) e.key).put (some g.kv) e.key).eval (.tmp g.kv) = .int .i64 kk := by rw [put_same (by rw [put_size, put_size]; exact hn2) l6]; exact hkk
      have hp3 : (((a2.put (some g.en) (.tuple #[e.key, e.val])).put (some g.ke) e.key).put (some g.kv) e.key).eval (.tmp g.pg) = .int .i64 p := by
        rw [put_other hpgw.2.2.2.2.2.1, put_other hpgw.2.2.2.2.1, put_other hpgw.2.2.2.1]; exact hp2
      have hit3 : (((a2.put (some g.en) (.tuple #[e.key, e.val])).put (some g.ke) e.key).put (some g.kv) e.key).eval (.tmp g.it) = .pointer (some ⟨b, 0, none⟩) := by
        rw [put_other n16, put_other n15, put_other n14]; exact hit2
      have F4 : FRel κ φ w2 s (((a2.put (some g.en) (.tuple #[e.key, e.val])).put (some g.ke) e.key).put (some g.kv) e.key) :=
        ((F3.putBot (by rw [hsn]; exact l4) r4 _).putBot (by rw [hsn]; exact l5) r5 _).putBot (by rw [hsn]; exact l6) r6 _
      generalize ((a2.put (some g.en) (.tuple #[e.key, e.val])).put (some g.ke) e.key).put (some g.kv) e.key = a3 at h8 hn3 hk3 hp3 hit3 F4
      have h9 := cmp_ops (P := P) (w := w2) e9 t3 t4 t5 t6 t7 t8 t9 t10 t11 hn3 l7 l8 hpgw.2.2.2.2.2.2.1 n78 hk3 hp3 hkp
      have F5 : FRel κ φ w2 s (((a3.put (some g.a1) (.int .i64 kk)).put (some g.a2) (.int .i64 p)).put (some g.tg) (.bool false)) :=
        ((F4.putBot (by rw [hsn]; exact l7) r7 _).putBot (by rw [hsn]; exact l8) r8 _).putBot (by rw [hsn]; exact l9) r9 _
      have htg : (((a3.put (some g.a1) (.int .i64 kk)).put (some g.a2) (.int .i64 p)).put (some g.tg) (.bool false)).eval (.tmp g.tg) = .bool false := put_same (by rw [put_size, put_size]; exact hn3) l9
      have hit4 : (((a3.put (some g.a1) (.int .i64 kk)).put (some g.a2) (.int .i64 p)).put (some g.tg) (.bool false)).eval (.tmp g.it) = .pointer (some ⟨b, 0, none⟩) := by
        rw [put_other n19, put_other n18, put_other n17]; exact hit3
      obtain ⟨e', a', w', κ', φ', s', h1, h2, h3, h4, h5, h6⟩ := ih _ (by rw [← hfuel]; exact Go.left_shrinks mes seen e he) κ φ w2 _ (seen.push e.born) clock rfl F5 hR2 hKp hκ hb2 hsk hm2 hsk hit4 fr cs
      refine ⟨e', a', w', κ', φ', s', h1, h2, h3, h4, h5, h6.of_steps ?_⟩
      refine Steps.trans first (Steps.trans (.one step_seq) (Steps.trans (.one (step_cond (t := true) htb)) (Steps.trans (.one step_skip) (Steps.trans (.one step_block) (Steps.trans (.one step_seq) ?_)))))
      refine Steps.trans (reg_steps h8 fr _ cs) (Steps.trans (.one step_seq) (Steps.trans (reg_steps h9 fr _ cs) (Steps.trans (.one (step_cond (t := false) htg)) (Steps.trans (.one step_skip) (Steps.trans (.one step_inBlock) (.one step_inLoop))))))

/-- The first operations of a region, then others. -/
theorem fOps_wpR {cf : Cfg} (hcf : CfOk P cf) {has : Nat → Bool} {call : FCall} (hs : FSound P call) {ops : Array Oper} {n : Nat} (hn2 : n ≤ 512) (hg : guardsOk n ops = true) : ∀ (l : List Oper) (k : Nat) {R : RT} {O : OT} {nx : Nat} {kk : VK} {a},
    fOps cf has call ops l R O nx kk = some a → (∀ i o, l[i]? = some o → ops[k + i]? = some o) →
    ∃ R' O' nx', kk R' O' nx' = some a ∧ ∀ {κ : Kap} {φ : Phi} {w : World} {act : Act} {Q : Exit → Act → World → Prop} {rest : List Nat}, FRel κ φ w (vst n R O) act →
      (∀ a' w' κ' φ', FRel κ' φ' w' (vst n R' O') a' → Fr κ w κ' w' → Kp φ O.fn φ' O'.fn → wpOps P ops Q rest a' w') → wpOps P ops Q (List.range' k l.length ++ rest) act w
  | [], k, R, O, nx, kk, a, h, hl => ⟨R, O, nx, h, fun F hk => hk _ _ _ _ F (Fr.refl _ _) (Kp.refl _ _)⟩
  | o :: r, k, R, O, nx, kk, a, h, hl => by
    have h : fOp cf has call ops o R O nx (fun R O nx => fOps cf has call ops r R O nx kk) = some a := h
    obtain ⟨vc, R1, O1, nx1, hv, h1, h2⟩ := op_ok hs h
    obtain ⟨R2, O2, nx2, h3, h4⟩ := fOps_wpR hcf hs hn2 hg r (k + 1) h2 (fun i o' hi => by have := hl (i + 1) o' (by simpa using hi); rw [← this]; congr 1; omega)
    refine ⟨R2, O2, nx2, h3, fun F hk => ?_⟩
    have hk0 : ops[k]? = some o := by simpa using hl 0 o rfl
    simp only [List.length_cons, List.range'_succ, List.cons_append]
    rw [wpOps_cons]
    refine vOp_wp hcf hv F h1 hk0 (guardsOk_spec hg) hn2 (fun a' w' κ' φ' g1 g2 g3 => ?_)
    exact h4 g1 (fun a2 w2 κ2 φ2 k1 k2 k3 => hk a2 w2 κ2 φ2 k1 (g2.trans k2) (g3.trans k3))

def noF : FCall := fun _ _ _ _ _ => none
theorem noF_ok : FSound P noF := fun _ _ _ _ _ _ h => by cases h

theorem forget_fn : ∀ (ws : List Nat) (R : RT), (∀ d ∈ ws, d < 512) → (forget ws R).fn = fun t => if t ∈ ws then .bot else R.fn t
  | [], R, _ => by funext t; simp [forget]
  | d :: r, R, h => by
    have : forget (d :: r) R = forget r (R.put d .bot) := rfl
    rw [this, forget_fn r _ (fun x hx => h x (by simp [hx])), RT.fn_put (h d (by simp))]
    funext t
    by_cases h1 : t ∈ r
    · simp [h1]
    · simp only [h1, if_false, setR, List.mem_cons, or_false]

/-- A block of others more. -/
theorem FRel.othPush {κ : Kap} {φ : Phi} {w w' : World} {s : SSt} {a : Act} (F : FRel κ φ w s a) {o : Obj} (hw : w'.heap = w.heap.push o) : FRel κ φ w' s a := by
  have ne : ∀ x, x < w.heap.size → w'.heap[x]? = w.heap[x]? := fun x hx => by rw [hw, heap_push_lt hx]
  have himm : ∀ x, κ x = .imm → κ x = .imm ∧ w'.heap[x]? = w.heap[x]? := fun x hx => ⟨hx, ne x (F.bnd.lt x (by rw [hx]; simp))⟩
  have M : Mono κ φ s.O w.heap κ φ s.O w'.heap :=
    { imm := himm
      shp := fun x c ty fz hx => ⟨c, fz, by rw [ne x (lt_of_get hx)]; exact hx, rfl⟩
      phi := fun _ _ => rfl
      len := fun _ _ _ h => h }
  refine ⟨fun t => (F.regs t).mono M, fun i => (F.objs i).mono M (fun x hx => ⟨hx, ne x (F.bnd.lt x (by rw [hx]; simp))⟩) rfl, ⟨fun x hx => by rw [hw]; simp only [Array.size_push]; have := F.bnd.lt x hx; omega, fun p hp => ?_⟩, F.n, F.df.mono M⟩
  obtain ⟨h1, ty, fz, h2⟩ := F.bnd.gl p hp
  exact ⟨h1, ty, fz, by rw [ne p.1 (lt_of_get h2)]; exact h2⟩

/-- Each key is an int, and not greater. -/
def keysLe (p : Int) (es : List (DV × DV)) : Bool := es.all fun x => match x.1 with
  | .int .i64 k => decide (k ≤ p)
  | _ => false

theorem rg_wk {cf : Cfg} (hcf : CfOk P cf) {has : Nat → Bool} {n m : Nat} (hn : n ≤ 512) {r6 : Nat} {ops6 : Array Oper} {pre : List Oper} {oR : Oper} {t k0 v0 : TypeId} {mx : Nat} {c : RgCode} {g : RgOps}
    (h6 : ops6.toList = pre ++ [oR]) (hg6 : guardsOk n ops6 = true) (hR : oR.op = .range t (.tmp mx)) (dR : oR.dst = some g.it) (gR : oR.guard = none) (hu : P.underlying t = some (.map k0 v0)) (hc : RgOk c g n)
    {R : RT} {O : OT} {nx : Nat} {kk : VK} {a : RV × OT × Nat} {K : List It} {fin : List (Nat × List RV) → VK} (hK : Good P n m fin K kk)
    (h : fOps cf has noF ops6 pre R O nx (fun R1 O1 nx1 => match R1.fn mx, R1.fn g.pg with
      | .map i, .d (.int .i64 p) => match O1.fn i with
        | some (.map es) => bif keysLe p es then kk (forget g.ws R1) O1 nx1 else none
        | _ => none
      | _, _ => none) = some a) : Ends P n m fin (.code (.seq (.region r6 ops6 false) (.block c.id0 (.loop (c.body g)))) :: K) R O a := by
  have hi : ∀ i o, pre[i]? = some o → ops6[0 + i]? = some o := fun i o hio => by
    rw [Nat.zero_add, ← Array.getElem?_toList, h6, List.getElem?_append_left (List.getElem?_eq_some_iff.1 hio).1]; exact hio
  obtain ⟨R1, O1, nx1, h3, h4⟩ := fOps_wpR hcf noF_ok hn hg6 pre 0 h hi
  split at h3
  · rename_i i p hmx hpg
    split at h3
    · rename_i es hes
      cases hk : keysLe p es with
      | false => rw [hk] at h3; cases h3
      | true =>
        rw [hk] at h3
        obtain ⟨Df1, Rf, Of, nxf, hf, W⟩ := hK _ _ _ _ h3
        refine ⟨Df1, Rf, Of, nxf, hf, ?_⟩
        intro κ φ w a0 F fr cs
        have hlen : List.range ops6.size = List.range' 0 pre.length ++ [pre.length] := by
          have : ops6.size = pre.length + 1 := by rw [← Array.length_toList, h6]; simp
          rw [this, List.range_eq_range', List.range'_concat]; simp
        have hoR : ops6[pre.length]? = some oR := by rw [← Array.getElem?_toList, h6]; simp
        have hreg : wpOps P ops6 (fun e a' w2 => e = .normal ∧ ∃ κ1 φ1 w1 a1 mb mes clock, FRel κ1 φ1 w1 (vst n R1 O1) a1 ∧ Fr κ w κ1 w1 ∧ Kp φ O.fn φ1 O1.fn ∧ φ1 i = .at mb ∧ κ1 mb = .own i ∧ w1.heap[mb]? = some (.map mes clock) ∧ SzOk mes es.length ∧
            (∀ (j : Nat) (x : DV × DV) (e : MapEntry), es[j]? = some x → mes[j]? = some e → DR κ1 w1.heap x.1 e.key ∧ DR κ1 w1.heap x.2 e.val ∧ e.born < clock) ∧
            w2 = { w1 with heap := w1.heap.push (.mapIter (some mb) clock #[] clock) } ∧ a' = a1.put (some g.it) (.pointer (some ⟨w1.heap.size, 0, none⟩))) (List.range ops6.size) a0 w := by
          rw [hlen]
          refine h4 F (fun a1 w1 κ1 φ1 g1 g2 g3 => ?_)
          have ho := g1.objs i
          have hes' : (vst n R1 O1).O i = some (.map es) := hes
          rw [hes'] at ho
          obtain ⟨mb, mes, clock, k1, k2, k3, k4, k5⟩ := ho
          have hv : a1.eval (.tmp mx) = .map (some mb) := by
            have := g1.regs mx
            have e : (vst n R1 O1).R mx = .map i := hmx
            rw [e] at this
            show a1.tmps.getD mx undef = _
            generalize a1.tmps.getD mx undef = v at this
            cases this with
            | map hφ => rw [k1] at hφ; injection hφ with hφ; rw [hφ]
          refine wpOps_val hoR gR dR (v := .pointer (some ⟨w1.heap.size, 0, none⟩)) (w' := { w1 with heap := w1.heap.push (.mapIter (some mb) clock #[] clock) }) ?_ ⟨rfl, κ1, φ1, w1, a1, mb, mes, clock, g1, g2, g3, k1, k2, k3, k4, k5, rfl, rfl⟩
          have hg : (getObj mb).run P w1 = .ok (.map mes clock) w1 := by simp [getObj, Sem.run, k3]
          simp only [execOp, hR, hv, Instr.range, Sem.run_bind, run_und hu, Result.andThen_ok, Sem.run_pure, hg]
          rfl
        obtain ⟨e, a2, w2, ⟨rfl, κ1, φ1, w1, a1, mb, mes, clock, f1, f2, f3, k1, k2, k3, k4, k5, rfl, rfl⟩, harr⟩ := wp_region (id := r6) hreg fr (.code (.block c.id0 (.loop (c.body g))) :: K.map It.item) cs
        have hwlt := hc.lt
        have hit : g.it < n := hwlt g.it (by simp [RgOps.ws])
        have hlt : mb < w1.heap.size := lt_of_get k3
        have hκb : κ1 w1.heap.size = .oth := by
          cases hx : κ1 w1.heap.size with
          | oth => rfl
          | imm => have := f1.bnd.lt w1.heap.size (by rw [hx]; simp); omega
          | own j => have := f1.bnd.lt w1.heap.size (by rw [hx]; simp); omega
        have hff := forget_fn g.ws R1 (fun d hd => Nat.lt_of_lt_of_le (hwlt d hd) hn)
        have F2 : FRel κ1 φ1 w1 (vst n (forget g.ws R1) O1) a1 := by
          refine FRel.weak f1 (R' := (forget g.ws R1).fn) (fun t v hr => ?_)
          rw [hff]
          by_cases ht : t ∈ g.ws
          · simp only [ht, if_true]; exact .bot _
          · simp only [ht, if_false]; exact hr
        have F3 := (F2.othPush (w' := { w1 with heap := w1.heap.push (.mapIter (some mb) clock #[] clock) }) rfl).putBot (d := g.it) hit (by show (forget g.ws R1).fn g.it = .bot; rw [hff]; simp [RgOps.ws]) (.pointer (some ⟨w1.heap.size, 0, none⟩))
        have hfr2 : Fr κ w κ1 { w1 with heap := w1.heap.push (.mapIter (some mb) clock #[] clock) } := by
          refine ⟨by simp only [Array.size_push]; have := f2.size; omega, fun x hx => ?_, fun x hx ho => ?_, fun x cc ty fz hx => ?_, f2.os, f2.out⟩
          · obtain ⟨b1, b2⟩ := f2.imm x hx
            exact ⟨b1, (heap_push_lt (f1.bnd.lt x (by rw [b1]; simp))).trans b2⟩
          · obtain ⟨b1, b2⟩ := f2.oth x hx ho
            exact ⟨b1, (heap_push_lt (Nat.lt_of_lt_of_le hx f2.size)).trans b2⟩
          · obtain ⟨c', fz', b1, b2⟩ := f2.shp x cc ty fz hx
            exact ⟨c', fz', (heap_push_lt (lt_of_get b1)).trans b1, b2⟩
        have hborn : ∀ x ∈ mes.toList, x.born < clock := fun x hx => by
          obtain ⟨j, hj⟩ := List.mem_iff_getElem?.1 hx
          have hj' : mes[j]? = some x := by simpa using hj
          have hjl : j < es.length := by have := (Array.getElem?_eq_some_iff.1 hj').1; have := k4.1; omega
          exact (k5 j es[j] x (by simp [hjl]) hj').2.2
        have hkeys : ∀ x ∈ mes.toList, ∃ k : Int, x.key = .int .i64 k ∧ k ≤ p := fun x hx => by
          obtain ⟨j, hj⟩ := List.mem_iff_getElem?.1 hx
          have hj' : mes[j]? = some x := by simpa using hj
          have hjl : j < es.length := by have := (Array.getElem?_eq_some_iff.1 hj').1; have := k4.1; omega
          have hd := (k5 j es[j] x (by simp [hjl]) hj').1
          have hle := List.all_eq_true.1 hk es[j] (by simp)
          split at hle
          · rename_i kq hq
            rw [hq] at hd
            generalize x.key = kv at hd ⊢
            cases hd
            exact ⟨kq, rfl, by simpa using hle⟩
          · cases hle
        have hpgw := hc.pgw
        obtain ⟨e', a', w', κ', φ', s', q1, q2, q3, q4, q5, q6⟩ := rg_loop (P := P) (m := m) hc (K := K) (s := vst n (forget g.ws R1) O1) rfl (fun d hd _ => by show (forget g.ws R1).fn d = .bot; rw [hff]; simp [hd]) (p := p)
          (by show (forget g.ws R1).fn g.pg = _; rw [hff]; simp [hpgw, hpg]) W (κ0 := κ) (w0 := w) (φ0 := φ) (O0 := O.fn) (b := w1.heap.size) (mb := mb) (since := clock) (clock := clock) (mes := mes) f2.size hborn k4.2 hkeys (by omega)
          _ κ1 φ1 _ _ #[] clock rfl F3 hfr2 (f3.m m) hκb (heap_push_eq _ _) (Nat.le_refl _) (by show (w1.heap.push _)[mb]? = _; rw [heap_push_lt hlt]; exact k3) (Nat.le_refl _) (put_same (by rw [f1.n]; rfl) hit) fr cs
        refine ⟨e', a', w', κ', φ', s', q1, q2, q3, q4, q5, q6.of_steps ?_⟩
        exact Steps.trans (.one step_seq) (Steps.trans harr (Steps.trans (.one step_block) (.one step_loop)))
    · cases h3
  · cases h3
end Go.Am

/-
  The hook for a range loop over a map whose rounds change nothing.
-/
namespace Go.Am
set_option linter.unusedSectionVars false
variable {P : Program} [Gl] [Df]

/-- What is told of the piece: the operations ahead of the range, the map's register, the loop, its registers. -/
structure RgPiece where
  r6 : Nat
  ops6 : Array Oper
  pre : List Oper
  mx : Nat
  t : TypeId
  c : RgCode
  g : RgOps

structure RgPieceOk (P : Program) (n : Nat) (q : RgPiece) : Prop where
  h6 : ∃ oR, q.ops6.toList = q.pre ++ [oR] ∧ oR.op = .range q.t (.tmp q.mx) ∧ oR.dst = some q.g.it ∧ oR.guard = none
  hg : guardsOk n q.ops6 = true
  hu : ∃ k v, P.underlying q.t = some (.map k v)
  hc : RgOk q.c q.g n

noncomputable def rgRun (cf : Cfg) (q : RgPiece) : List (Nat × VK) → VK → VK := fun _ kk R O nx =>
  fOps cf (fun _ => false) noF q.ops6 q.pre R O nx (fun R1 O1 nx1 => match R1.fn q.mx, R1.fn q.g.pg with
      | .map i, .d (.int .i64 p) => match O1.fn i with
        | some (.map es) => bif keysLe p es then kk (forget q.g.ws R1) O1 nx1 else none
        | _ => none
      | _, _ => none)

theorem rgRun_good {cf : Cfg} (hcf : CfOk P cf) {n m : Nat} (hn : n ≤ 512) {q : RgPiece} (hq : RgPieceOk P n q) {fin : List (Nat × List RV) → VK} {K : List It} {e : List (Nat × VK)} {kk : VK} (hK : Good P n m fin K kk) :
    Good P n m fin (.code (.seq (.region q.r6 q.ops6 false) (.block q.c.id0 (.loop (q.c.body q.g)))) :: K) (rgRun cf q e kk) := by
  intro R O nx a h
  obtain ⟨oR, h1, h2, h3, h4⟩ := hq.h6
  obtain ⟨k, v, hu⟩ := hq.hu
  exact rg_wk hcf hn h1 hq.hg h2 h3 h4 hu hq.hc hK h


/-- All pieces of a code. -/
def pieces : Code → List (Code × Code)
  | .seq x y => (x, y) :: (pieces x ++ pieces y)
  | .cond _ x y => pieces x ++ pieces y
  | .block _ x => pieces x
  | .loop x => pieces x
  | .scope x => pieces x
  | _ => []

theorem Sub.pieces {b c : Code} (h : Sub b c) : ∀ z ∈ Am.pieces c, z ∈ Am.pieces b := by
  induction h with
  | refl => exact fun z hz => hz
  | seqL _ ih => exact fun z hz => ih z (by simp only [Am.pieces, List.mem_cons, List.mem_append]; exact .inr (.inl hz))
  | seqR _ ih => exact fun z hz => ih z (by simp only [Am.pieces, List.mem_cons, List.mem_append]; exact .inr (.inr hz))
  | condL _ ih => exact fun z hz => ih z (by simp only [Am.pieces, List.mem_append]; exact .inl hz)
  | condR _ ih => exact fun z hz => ih z (by simp only [Am.pieces, List.mem_append]; exact .inr hz)
  | block _ ih => exact fun z hz => ih z hz
  | loop _ ih => exact fun z hz => ih z hz
  | scope _ ih => exact fun z hz => ih z hz

def isReg (r : Nat) : Code → Bool
  | .region i _ _ => Nat.beq i r
  | _ => false

noncomputable def rgHook (cf : Cfg) (q : RgPiece) : Hook := fun x _ => bif isReg q.r6 x then some (rgRun cf q) else none

theorem rgHook_ok {cf : Cfg} (hcf : CfOk P cf) {n m : Nat} (hn : n ≤ 512) {q : RgPiece} (hq : RgPieceOk P n q) {fin : List (Nat × List RV) → VK} {body : Code}
    (hp : (pieces body).filter (fun z => isReg q.r6 z.1) = [(.region q.r6 q.ops6 false, .block q.c.id0 (.loop (q.c.body q.g)))]) : HookOk P n m fin body (rgHook cf q) := by
  intro x y f hf hS k e kk hk _
  unfold rgHook at hf
  cases hr : isReg q.r6 x with
  | false => rw [hr] at hf; cases hf
  | true =>
    rw [hr] at hf
    simp only [cond_true, Option.some.injEq] at hf
    subst hf
    have hm : (x, y) ∈ (pieces body).filter (fun z => isReg q.r6 z.1) := by
      rw [List.mem_filter]
      exact ⟨hS.pieces (x, y) (by simp [Am.pieces]), hr⟩
    rw [hp] at hm
    simp only [List.mem_cons, List.mem_nil_iff, or_false, Prod.mk.injEq] at hm
    obtain ⟨rfl, rfl⟩ := hm
    exact rgRun_good hcf hn hq hk
end Go.Am

/-
  Rows of closed contracts: a table that the closed machine asks, and what a run must give.
-/
namespace Go.Am
set_option linter.unusedSectionVars false
variable {P : Program} [Gl]

structure Row where
  g : Nat
  args : List RV
  objs : List PObj
  r : RV
  os : List PObj

/-- So many bytes of a number, the lowest first. -/
noncomputable def hx (n x : Nat) : List UInt8 :=
  Nat.rec (motive := fun _ => Nat → List UInt8) (fun _ => []) (fun _ ih x => UInt8.ofNat (Nat.mod x 256) :: Nat.rec (motive := fun _ => List UInt8) (ih 0) (fun m _ => ih (Nat.succ m)) (Nat.div x 256)) n x

def Row.C (P : Program) (q : Row) : Prop := Go.Am.C P q.g q.args q.objs (fun r o => r = q.r ∧ o = q.os)

noncomputable def rowsK (base : Kon) : List Row → Kon := fun l => List.rec (motive := fun _ => Kon) base (fun q _ ih f a o =>
  Bool.rec (motive := fun _ => Option (RV × List PObj × List Bool)) (ih f a o)
    (Bool.rec (motive := fun _ => Option (RV × List PObj × List Bool)) (ih f a o) (some (q.r, q.os, [])) (eqL (eqRV 8) q.args a && eqL eqPO q.objs o)) (Nat.beq q.g f)) l

theorem rowsK_cons {base : Kon} {l : List Row} {q : Row} (hl : KSound P (rowsK base l)) (hq : q.C P) : KSound P (rowsK base (q :: l)) := by
  intro f a o r o' c h hc
  have h : Bool.rec (motive := fun _ => Option (RV × List PObj × List Bool)) (rowsK base l f a o)
    (Bool.rec (motive := fun _ => Option (RV × List PObj × List Bool)) (rowsK base l f a o) (some (q.r, q.os, [])) (eqL (eqRV 8) q.args a && eqL eqPO q.objs o)) (Nat.beq q.g f) = some (r, o', c) := h
  cases h1 : Nat.beq q.g f with
  | false => rw [h1] at h; exact hl f a o r o' c h hc
  | true =>
    rw [h1] at h
    cases h2 : (eqL (eqRV 8) q.args a && eqL eqPO q.objs o) with
    | false => rw [h2] at h; exact hl f a o r o' c h hc
    | true =>
      rw [h2] at h
      simp only [Option.some.injEq, Prod.mk.injEq] at h
      obtain ⟨rfl, rfl, rfl⟩ := h
      simp only [Bool.and_eq_true] at h2
      have e1 := nbE h1
      have e2 := eqL_spec (eqRV_spec 8) _ _ h2.1
      have e3 := eqL_spec eqPO_spec _ _ h2.2
      subst e1; subst e2; subst e3
      exact hq

def eqRes (x : Option (RV × List PObj × List Bool)) (r : RV) (os : List PObj) : Bool :=
  match x with
  | some (r2, o2, []) => eqRV 8 r2 r && eqL eqPO o2 os
  | _ => false

theorem eqRes_spec {x : Option (RV × List PObj × List Bool)} {r : RV} {os : List PObj} (h : eqRes x r os = true) : x = some (r, os, []) := by
  unfold eqRes at h
  split at h
  · simp only [Bool.and_eq_true] at h
    rw [eqRV_spec 8 _ _ h.1, eqL_spec eqPO_spec _ _ h.2]
  · cases h

/-- Is a function's bit set? -/
def hasM (mask g : Nat) : Bool := Nat.beq (Nat.mod (Nat.shiftRight mask g) 2) 1

/-- The values that lie in tables most. -/
def di (n : Nat) : RV := .d (.int .i64 (Int.ofNat n))
def ds (s : List UInt8) : RV := .d (.str s)
def db (b : Bool) : RV := .d (.bool b)
def vi (n : Nat) : DV := .int .i64 (Int.ofNat n)
end Go.Am

/-
  The quick closed machine for a function that defers calls: a region of one operation defers a call of a function; when the body has come to its end, the call is run, and the results are read.
-/
namespace Go.Am
set_option linter.unusedSectionVars false
variable {P : Program} [Gl]

/-- The operations of a region of which the last one defers a call. -/
def deferReg : Code → Option (Array Oper × List Oper × Oper)
  | .region _ ops false => match ops.toList.reverse with
    | o :: r => match o.op with
      | .defer _ => some (ops, r.reverse, o)
      | _ => none
    | _ => none
  | _ => none

/-- What it defers: a function and its arguments. -/
def deferOp (R : Nat → RV) (o : Oper) : Option (Nat × List RV) :=
  match o.guard, o.dst, o.op with
  | none, none, .defer c => match c.callee with
    | .value f => match rvOf R f with
      | .clo (.func g) [] [] => some (g, c.args.toList.map (rvOf R))
      | _ => none
    | _ => none
  | _, _, _ => none

theorem deferReg_some {x : Code} {ops : Array Oper} {pre : List Oper} {o : Oper} (h : deferReg x = some (ops, pre, o)) : (∃ id, x = .region id ops false) ∧ ops.toList = pre ++ [o] := by
  unfold deferReg at h
  split at h
  · rename_i id ops'
    split at h
    · rename_i o' r hl
      split at h
      · simp only [Option.some.injEq, Prod.mk.injEq] at h
        obtain ⟨rfl, rfl, rfl⟩ := h
        refine ⟨⟨id, rfl⟩, ?_⟩
        have := congrArg List.reverse hl
        simpa using this
      · cases h
    · cases h
  · cases h

theorem deferOp_wp {n i : Nat} {o : Oper} {ops : Array Oper} {R : RT} {O : OT} {p : Nat × List RV} (h : deferOp R.fn o = some p) (hi : ops[i]? = some o) {κ : Kap} {φ : Phi} {w : World} {a : Act} {Q : Exit → Act → World → Prop}
    (F : FRel κ φ w (vst n R O) a) (hQ : ∀ a', FRel κ φ w (dst n [p] R O) a' → Q .normal a' w) : wpOps P ops Q [i] a w := by
  unfold deferOp at h
  split at h
  · rename_i c hg hd hop
    split at h
    · rename_i f hcal
      split at h
      · rename_i g hrf
        injection h with h; subst h
        have rf := rvOf_ok F f
        have hrf' : rvOf (vst n R O).R f = .clo (.func g) [] [] := hrf
        rw [hrf'] at rf
        generalize hev : a.eval f = fv at rf
        cases rf with
        | clo h1 h2 h3 h4 =>
          rename_i fa ca
          have e1 : fa = #[] := Array.eq_empty_of_size_eq_zero h1
          have e2 : ca = #[] := Array.eq_empty_of_size_eq_zero h2
          subst e1; subst e2
          have hexec : (execOp a.eval o).run P w = .ok (.defer { target := .fn (.func g) #[], args := #[] ++ c.args.map a.eval }) w := by
            simp only [execOp, hop, resolve, hcal, hev, Deferred.ofValue, Sem.run_bind, Sem.run_pure, Result.andThen_ok]
          rw [wpOps_cons]
          unfold wpOp
          rw [hi]
          simp only [Region.wanted, hg, if_true]
          left
          unfold Oper.wp
          rw [hexec, Oper.upon_defer, hd]
          have hnil := DfR.nil F.df
          refine hQ _ ⟨fun t => F.regs t, F.objs, F.bnd, F.n, ?_⟩
          show DfR κ φ O.fn w.heap [(g, c.args.toList.map (rvOf R.fn))] (_ :: a.defers)
          rw [hnil]
          refine ⟨rfl, by simp, fun i x v hx hv => map_rel F c.args i x v hx (by simpa using hv), trivial⟩
      · cases h
    · cases h
  · cases h

/-- A body whose outermost row of pieces may hold such a region. -/
noncomputable def fTop (cf : Cfg) (has : Nat → Bool) (call : FCall) (n fuel : Nat) (fin : List (Nat × List RV) → VK) (c : Code) : VK :=
  Code.rec (motive := fun _ => VK)
    (fin [])
    (fun id ops draw => fCode cf has call n fuel (fin []) (.region id ops draw) [] (fin []))
    (fun x y _ hy => Option.rec (motive := fun _ => VK) (fCode cf has call n fuel (fin []) x [] hy)
      (fun q R O nx => Bool.rec (motive := fun _ => Ans) none
        (fOps cf has call q.1 q.2.1 R O nx (fun R O nx => Option.rec (motive := fun _ => Ans) none (fun p => fCode cf has call n fuel (fin [p]) y [] (fin [p]) R O nx) (deferOp R.fn q.2.2))) (guardsOk n q.1)) (deferReg x))
    (fun c x y _ _ => fCode cf has call n fuel (fin []) (.cond c x y) [] (fin []))
    (fun id b _ => fCode cf has call n fuel (fin []) (.block id b) [] (fin []))
    (fun b _ => fCode cf has call n fuel (fin []) (.loop b) [] (fin []))
    (fun _ _ _ _ _ _ => fun _ _ _ => none)
    (fun _ => fun _ _ _ => none)
    (fun b _ => fCode cf has call n fuel (fin []) (.scope b) [] (fin []))
    (fun l => fCode cf has call n fuel (fin []) (.label l) [] (fin []))
    (fun _ => fun _ _ _ => none)
    (fin [])
    (fun _ => fun _ _ _ => none) c

theorem fin_good {n m : Nat} {fin : List (Nat × List RV) → VK} [Df] : Good P n m fin [] (fin Df.df) := fun R O nx _ h => ⟨Df.df, R, O, nx, h, WK.done rfl⟩
theorem noCtx {n m : Nat} {fin : List (Nat × List RV) → VK} {k : List It} [Df] : CtxOk P n m fin k [] := fun id R O nx a h => by cases h

theorem top_good {cf : Cfg} (hcf : CfOk P cf) (hmix : P.follows .mixedOrders = true) {has : Nat → Bool} {call : FCall} (hs : FSound P call) {n m : Nat} (hn : n ≤ 512) {fin : List (Nat × List RV) → VK} (fuel : Nat) :
    ∀ c : Code, Good P n m fin [.code c] (fTop cf has call n fuel fin c)
  | .skip => fun R O nx a h => (fin_good (P := P) (m := m) R O nx a h).by fun _ W => WK.skip W
  | .region id ops draw => code_good hcf hmix hs hn fuel _ [] [] _ fin_good noCtx
  | .seq x y => fun R O nx a h => by
    have hh : Option.rec (motive := fun _ => VK) (fCode cf has call n fuel (fin []) x [] (fTop cf has call n fuel fin y))
      (fun q R O nx => Bool.rec (motive := fun _ => Ans) none
        (fOps cf has call q.1 q.2.1 R O nx (fun R O nx => Option.rec (motive := fun _ => Ans) none (fun p => fCode cf has call n fuel (fin [p]) y [] (fin [p]) R O nx) (deferOp R.fn q.2.2))) (guardsOk n q.1)) (deferReg x) R O nx = some a := h
    cases hx : deferReg x with
    | none =>
      rw [hx] at hh
      exact (code_good hcf hmix hs hn fuel x [.code y] [] _ (top_good hcf hmix hs hn fuel y) noCtx R O nx a hh).by fun _ W => WK.seq W
    | some q =>
      obtain ⟨ops, pre, o⟩ := q
      rw [hx] at hh
      simp only at hh
      cases hg : guardsOk n ops with
      | false => rw [hg] at hh; cases hh
      | true =>
        rw [hg] at hh
        simp only at hh
        obtain ⟨⟨id, rfl⟩, hops⟩ := deferReg_some hx
        have hat : ∀ i o', pre[i]? = some o' → ops[0 + i]? = some o' := fun i o' hi => by
          have h1 : i < pre.length := (List.getElem?_eq_some_iff.1 hi).1
          rw [← Array.getElem?_toList, hops, Nat.zero_add, List.getElem?_append_left h1]; exact hi
        have hlast : ops[pre.length]? = some o := by
          rw [← Array.getElem?_toList, hops, List.getElem?_append_right (Nat.le_refl _)]; simp
        have hsz : ops.size = pre.length + 1 := by rw [← Array.length_toList, hops]; simp
        obtain ⟨R', O', nx', h1, h2⟩ := fOps_wpR hcf hs hn hg pre 0 hh hat
        cases hp : deferOp R'.fn o with
        | none => rw [hp] at h1; cases h1
        | some p =>
          rw [hp] at h1
          simp only at h1
          letI : Df := ⟨[p]⟩
          obtain ⟨D, R1, O1, nx1, h3, W⟩ := code_good (P := P) (m := m) (fin := fin) hcf hmix hs hn fuel y [] [] _ fin_good noCtx R' O' nx' a h1
          refine ⟨D, R1, O1, nx1, h3, WK.seq (WK.region (s' := dst n [p] R' O') (fun κ φ w act F => ?_) W)⟩
          have hr : List.range ops.size = List.range' 0 pre.length ++ [pre.length] := by
            rw [hsz, List.range_eq_range', List.range'_concat]; simp
          rw [hr]
          exact h2 F (fun a' w' κ' φ' g1 g2 g3 => deferOp_wp hp hlast g1 (fun a2 F2 => ⟨rfl, κ', φ', F2, g2, g3.m m⟩))
  | .cond c x y => code_good hcf hmix hs hn fuel _ [] [] _ fin_good noCtx
  | .block id b => code_good hcf hmix hs hn fuel _ [] [] _ fin_good noCtx
  | .loop b => code_good hcf hmix hs hn fuel _ [] [] _ fin_good noCtx
  | .rangeFunc _ _ _ _ => fun R O nx a h => by cases h
  | .exit _ => fun R O nx a h => by cases h
  | .scope b => code_good hcf hmix hs hn fuel _ [] [] _ fin_good noCtx
  | .label l => code_good (has := has) hcf hmix hs hn fuel _ [] [] _ fin_good noCtx
  | .goto _ => fun R O nx a h => by cases h
  | .ret => fun R O nx a h => ⟨[], R, O, nx, h, WK.ret rfl⟩
  | .refuse _ => fun R O nx a h => by cases h

/-- What a frame begins with. -/
theorem entry_rel {κ : Kap} {φ : Phi} {w : World} {args : List RV} {O : OT} {n : Nat} {vs : Array Value} (g1 : args.length ≤ n) (g2 : n ≤ 512) (h1 : ∀ i, OR κ φ O.fn w.heap i (O.fn i)) (h2 : Bnd κ w)
    (h3 : vs.size = args.length) (h4 : ∀ (i : Nat) (x : RV) (v : Value), args[i]? = some x → vs[i]? = some v → RVR κ φ O.fn w.heap x v) :
    FRel κ φ w (vst n (argsV 0 args RT.nil) O) { tmps := vs ++ Array.replicate (n - vs.size) undef, defers := [] } := by
  have hini : vst n (argsV 0 args RT.nil) O = { n := n, R := fun t => (args[t]?).getD .bot, O := O.fn } := by
    unfold vst
    rw [argsV_fn args 0 _ (by omega), RT.fn_nil]
    congr 1
    funext t
    simp only [Nat.not_lt_zero, if_false, Nat.zero_add, Nat.sub_zero]
    split
    · rfl
    · rw [List.getElem?_eq_none (by omega)]; rfl
  rw [hini]
  refine ⟨fun t => ?_, h1, h2, by simp; omega, trivial⟩
  by_cases ht : t < args.length
  · have e1 : args[t]? = some args[t] := by simp [ht]
    have e2 : vs[t]? = some vs[t] := by simp [show t < vs.size by omega]
    have e3 : (vs ++ Array.replicate (n - vs.size) undef).getD t undef = vs[t] := by
      rw [Array.getD_eq_getD_getElem?, Array.getElem?_append_left (by omega), e2]; rfl
    simp only [e1, Option.getD_some, e3]
    exact h4 t _ _ e1 e2
  · have e1 : args[t]? = none := by simp; omega
    simp only [e1, Option.getD_none]; exact .bot _

/-- What a frame hands back. -/
theorem results_rel {κ : Kap} {φ : Phi} {w : World} {s : SSt} {a : Act} {f : Func} (F : FRel κ φ w s a) {vs0 : List RV} (hres : mapO (resVal (Env.of P) s.R s.O) f.results.toList = some vs0) :
    ∃ v, (results f a.tmps).run P w = .ok v w ∧ RVR κ φ s.O w.heap (one vs0) v := by
  have hdef : results f a.tmps = (do
      let vs ← f.results.mapM (resG a.tmps)
      pure (if h : vs.size = 1 then vs[0] else .tuple vs)) := by
    unfold results resG
    rfl
  obtain ⟨us, u1, u2, u3⟩ := results_ok F (resG a.tmps) (fun _ => rfl) (fun _ _ => rfl) _ vs0 hres
  refine ⟨(if hh : us.toArray.size = 1 then us.toArray[0] else .tuple us.toArray), ?_, one_ok (by omega) u3⟩
  rw [hdef]
  simp only [Sem.run_bind]
  rw [Array.mapM_eq_mapM_toList]
  simp only [Sem.run_map]
  rw [u1]; rfl

theorem objs_lt {κ : Kap} {φ : Phi} {h : Heap} {O : OT} (h1 : ∀ i, OR κ φ O.fn h i (O.fn i)) : ∀ i, φ i ≠ .un → i < 1048576 := fun i hi => by
  rcases Nat.lt_or_ge i 1048576 with hlt | hge
  · exact hlt
  · have := h1 i
    rw [OT.fn_big hge] at this
    exact absurd this hi

theorem KpM.kp {φ φ' : Phi} {O O' : Tab} (K : KpM 1048576 φ O φ' O') (hlt : ∀ i, φ i ≠ .un → i < 1048576) : Kp φ O φ' O' :=
  ⟨fun i hi => K.phi i (hlt i hi) hi, fun i n hi hn => K.len i n (hlt i hi) hi hn⟩

/-- A frame that was deferred: its run, out of a run of its body. -/
theorem callsD_of_body {f : FuncId} {fn : Func} {c : Code} {args : Array Value} {u : FrameMode} {w : World} {R : Ending → World → Prop}
    (hf : P.funcs[f]? = some fn) (hb : fn.body = some c)
    (h : ∀ (b : Frame) (cs : List Frame), ∃ e a' w', (e = .normal ∨ e = .ret) ∧ (a'.defers = [] ∧ ∃ v, (results fn a'.tmps).run P w' = .ok v w' ∧ R (.returned v) w') ∧
      Arrives P (lone (b.at { tmps := args ++ Array.replicate (fn.ntmps - args.size) undef, defers := [] } [.code c]) cs w) b [] cs e a' w') : CallsD P f args u w fun e u' w' => u' = u ∧ R e w' := by
  intro c₀ cs hu
  let b : Frame := { (default : Frame) with fn := f, kind := .deferred }
  have henter : Frame.enter P f args .deferred = b.at { tmps := args ++ Array.replicate (fn.ntmps - args.size) undef, defers := [] } [.code c] := by
    simp [Frame.enter, Frame.at, hf, hb, b]
  have hc : ({ c₀ with mode := u } : Frame) = c₀ := by subst hu; rfl
  obtain ⟨e, a', w', he, ⟨hd, v, hr, hR⟩, harr⟩ := h b (c₀ :: cs)
  rw [← henter] at harr
  rcases he with rfl | rfl
  · exact ⟨.returned v, u, w', _, ⟨rfl, hR⟩, (by rw [hc]; exact Steps.trans harr (.one step_end)), rfl, rfl, hd, fn, hf, hr⟩
  · obtain ⟨todo, hs⟩ := harr
    exact ⟨.returned v, u, w', _, ⟨rfl, hR⟩, (by rw [hc]; exact hs), rfl, rfl, hd, fn, hf, hr⟩

/-- A function with deferred calls: its run, out of a run of its body. -/
theorem calls_of_bodyD {f : FuncId} {fn : Func} {c : Code} {args : Array Value} {w : World} {R : Ending → World → Prop}
    (hf : P.funcs[f]? = some fn) (hb : fn.body = some c)
    (h : ∀ (b : Frame) (cs : List Frame), ∃ e a' w', (e = .normal ∨ e = .ret) ∧ Leaves P fn a'.tmps R a'.defers .returning w' ∧
      Arrives P (lone (b.at { tmps := args ++ Array.replicate (fn.ntmps - args.size) undef, defers := [] } [.code c]) cs w) b [] cs e a' w') : Calls P f args w R := by
  intro cs
  let b : Frame := { (default : Frame) with fn := f, kind := .normal }
  have henter : Frame.enter P f args .normal = b.at { tmps := args ++ Array.replicate (fn.ntmps - args.size) undef, defers := [] } [.code c] := by
    simp [Frame.enter, Frame.at, hf, hb, b]
  obtain ⟨e, a', w', he, hl, harr⟩ := h b cs
  rw [← henter] at harr
  rcases he with rfl | rfl
  · obtain ⟨e', w'', fr', hR, hs, hfn, hl⟩ := leaves_steps a'.defers .returning w' { b.at a' [] with mode := .returning } cs rfl rfl rfl hf rfl hl
    exact ⟨e', w'', fr', hR, Comes.of_steps (Steps.trans harr (.one step_end)) hs, hfn, hl⟩
  · obtain ⟨todo, hs₀⟩ := harr
    obtain ⟨e', w'', fr', hR, hs, hfn, hl⟩ := leaves_steps a'.defers .returning w' { b.at a' todo with mode := .returning } cs rfl rfl rfl hf rfl hl
    exact ⟨e', w'', fr', hR, Comes.of_steps hs₀ hs, hfn, hl⟩

/-- What a deferred function makes of its arguments. -/
def GCD (P : Program) (f : FuncId) (args : List RV) (O : Tab) (O' : Tab) : Prop :=
  ∀ (κ : Kap) (φ : Phi) (w : World) (vs : Array Value) (u : FrameMode), (∀ i, OR κ φ O w.heap i (O i)) → Bnd κ w → vs.size = args.length →
    (∀ (i : Nat) (x : RV) (v : Value), args[i]? = some x → vs[i]? = some v → RVR κ φ O w.heap x v) →
    CallsD P f vs u w fun e u' w' => u' = u ∧ ∃ v κ' φ', e = .returned v ∧ (∀ i, OR κ' φ' O' w'.heap i (O' i)) ∧ Bnd κ' w' ∧ Fr κ w κ' w' ∧ Kp φ O φ' O'

def FSoundD (P : Program) (call : FCall) : Prop := ∀ g args O nx kont a, call g args O nx kont = some a → ∃ r O' nx', kont r O' nx' = some a ∧ GCD P g args O.fn O'.fn

theorem fFunH_okD {cf : Cfg} (hcf : CfOk P cf) (hmix : P.follows .mixedOrders = true) {hooks : Nat → Hook} {fn : Nat → Option Func} (hks : ∀ g f body, fn g = some f → f.body = some body → ∀ fin, HookOk P f.ntmps 1048576 fin body (hooks g)) (hfn : ∀ g f, fn g = some f → P.funcs[g]? = some f) {has : Nat → Bool} {call : FCall} (hs : FSound P call) (fuel : Nat) : FSoundD P (fFunH hooks fn cf has fuel call) := by
  intro g args O nx kont a hk
  unfold fFunH at hk
  cases hf0 : fn g with
  | none => rw [hf0] at hk; cases hk
  | some f =>
    have hf := hfn g f hf0
    rw [hf0] at hk; simp only at hk
    cases hb : f.body with
    | none => rw [hb] at hk; cases hk
    | some body =>
      rw [hb] at hk; simp only at hk
      cases hg : (Nat.ble args.length f.ntmps && Nat.ble f.ntmps 512) with
      | false => rw [hg] at hk; cases hk
      | true =>
        rw [hg] at hk; simp only at hk
        simp only [Bool.and_eq_true] at hg
        have g1 := Nat.le_of_ble_eq_true hg.1
        have g2 := Nat.le_of_ble_eq_true hg.2
        have W := codeH_good (P := P) (m := 1048576) (fin := finOf (retF cf f.results.toList kont)) hcf hmix hs g2 (hks g f body hf0 hb _) fuel body .refl [] [] (retF cf f.results.toList kont) (fun R O nx a h => ⟨[], R, O, nx, h, WK.done rfl⟩)
          (fun id R O nx a h => by cases h) _ _ _ _ hk
        obtain ⟨D1, R1, O1, nx1, hret, W⟩ := W
        cases D1 with
        | cons => cases hret
        | nil =>
        have hret : retF cf f.results.toList kont R1 O1 nx1 = some a := hret
        unfold retF at hret
        cases hres : mapO (resVal cf.E R1.fn O1.fn) f.results.toList with
        | none => rw [hres] at hret; cases hret
        | some vs0 =>
          rw [hres] at hret
          refine ⟨one vs0, O1, nx1, hret, ?_⟩
          intro κ φ w vs u h1 h2 h3 h4
          have F := entry_rel g1 g2 h1 h2 h3 h4
          have key : CallsD P g vs u w fun e u' w' => u' = u ∧ ∃ v κ' φ', e = .returned v ∧ (∀ i, OR κ' φ' O1.fn w'.heap i (O1.fn i)) ∧ Bnd κ' w' ∧ Fr κ w κ' w' ∧ Kp φ O.fn φ' O1.fn := by
            refine callsD_of_body hf hb ?_
            intro b cs
            obtain ⟨e, a', w', κ', φ', s', he, hs', F', R', K', harr⟩ := W κ φ w _ F b cs
            subst hs'
            rw [hcf.E] at hres
            obtain ⟨v, hrun, hv⟩ := results_rel F' hres
            exact ⟨e, a', w', he, ⟨DfR.nil F'.df, v, hrun, v, κ', φ', rfl, F'.objs, F'.bnd, R', KpM.kp K' (objs_lt h1)⟩, harr⟩
          exact key

/-- What comes behind the body: the deferred call, if there is one, and the results. -/
noncomputable def finD (cf : Cfg) (res : List ResultVar) (callD : FCall) (kont : RK) : List (Nat × List RV) → VK
  | [] => retF cf res kont
  | [p] => fun R O nx => Bool.rec (motive := fun _ => Ans) none (callD p.1 p.2 O nx (fun _ O' nx' => retF cf res kont R O' nx')) (cf.callOk p.1)
  | _ => fun _ _ _ => none

noncomputable def fFunD (fn : Nat → Option Func) (cf : Cfg) (has : Nat → Bool) (fuel : Nat) (call callD : FCall) : FCall := fun g args O nx kont =>
  Option.rec (motive := fun _ => Ans) none (fun f => Option.rec (motive := fun _ => Ans) none (fun body =>
    Bool.rec (motive := fun _ => Ans) none
      (fTop cf has call f.ntmps fuel (finD cf f.results.toList callD kont) body (argsV 0 args RT.nil) O nx)
      (Nat.ble args.length f.ntmps && Nat.ble f.ntmps 512)) f.body) (fn g)

theorem fFunD_ok {cf : Cfg} (hcf : CfOk P cf) (hmix : P.follows .mixedOrders = true) {fn : Nat → Option Func} (hfn : ∀ g f, fn g = some f → P.funcs[g]? = some f) {has : Nat → Bool} {call callD : FCall} (hs : FSound P call) (hsD : FSoundD P callD) (fuel : Nat) :
    FSound P (fFunD fn cf has fuel call callD) := by
  intro g args O nx kont a hk
  unfold fFunD at hk
  cases hf0 : fn g with
  | none => rw [hf0] at hk; cases hk
  | some f =>
    have hf := hfn g f hf0
    rw [hf0] at hk; simp only at hk
    cases hb : f.body with
    | none => rw [hb] at hk; cases hk
    | some body =>
      rw [hb] at hk; simp only at hk
      cases hg : (Nat.ble args.length f.ntmps && Nat.ble f.ntmps 512) with
      | false => rw [hg] at hk; cases hk
      | true =>
        rw [hg] at hk; simp only at hk
        simp only [Bool.and_eq_true] at hg
        have g1 := Nat.le_of_ble_eq_true hg.1
        have g2 := Nat.le_of_ble_eq_true hg.2
        obtain ⟨D1, R1, O1, nx1, hret, W⟩ := top_good (P := P) (m := 1048576) (fin := finD cf f.results.toList callD kont) hcf hmix hs g2 fuel body _ _ _ _ hk
        match D1, hret, W with
        | [], hret, W =>
          have hret : retF cf f.results.toList kont R1 O1 nx1 = some a := hret
          unfold retF at hret
          cases hres : mapO (resVal cf.E R1.fn O1.fn) f.results.toList with
          | none => rw [hres] at hret; cases hret
          | some vs0 =>
            rw [hres] at hret
            refine ⟨one vs0, O1, nx1, hret, ?_⟩
            intro κ φ w vs h1 h2 h3 h4
            have F := entry_rel g1 g2 h1 h2 h3 h4
            refine calls_of_body hf hb ?_
            intro b cs
            obtain ⟨e, a', w', κ', φ', s', he, hs', F', R', K', harr⟩ := W κ φ w _ F b cs
            subst hs'
            rw [hcf.E] at hres
            obtain ⟨v, hrun, hv⟩ := results_rel F' hres
            exact ⟨e, a', w', he, ⟨DfR.nil F'.df, v, hrun, v, κ', φ', rfl, hv, F'.objs, F'.bnd, R', KpM.kp K' (objs_lt h1)⟩, harr⟩
        | [p], hret, W =>
          have hret : Bool.rec (motive := fun _ => Ans) none (callD p.1 p.2 O1 nx1 (fun _ O' nx' => retF cf f.results.toList kont R1 O' nx')) (cf.callOk p.1) = some a := hret
          cases hok : cf.callOk p.1 with
          | false => rw [hok] at hret; cases hret
          | true =>
            rw [hok] at hret; simp only at hret
            obtain ⟨r2, O2, nx2, hret, hD⟩ := hsD _ _ _ _ _ _ hret
            unfold retF at hret
            cases hres : mapO (resVal cf.E R1.fn O2.fn) f.results.toList with
            | none => rw [hres] at hret; cases hret
            | some vs0 =>
              rw [hres] at hret
              refine ⟨one vs0, O2, nx2, hret, ?_⟩
              intro κ φ w vs h1 h2 h3 h4
              have F := entry_rel g1 g2 h1 h2 h3 h4
              refine calls_of_bodyD hf hb ?_
              intro b cs
              obtain ⟨e, a', w', κ', φ', s', he, hs', F', R', K', harr⟩ := W κ φ w _ F b cs
              subst hs'
              rw [hcf.E] at hres
              refine ⟨e, a', w', he, ?_, harr⟩
              have hdf := F'.df
              have hdf : DfR κ' φ' O1.fn w'.heap [p] a'.defers := hdf
              match hds : a'.defers, hdf with
              | [d], hdf =>
                obtain ⟨d1, d2, d3, -⟩ := hdf
                obtain ⟨tg, da⟩ := d
                simp only at d1 d2 d3
                subst d1
                have hinv : (invoke (.fn (.func p.1) #[]) da).run P w' = .ok (.enter p.1 da) w' := by
                  simp only [invoke, Array.append_empty]
                  exact run_callFunc (hcf.call _ hok) _ w'
                refine leaves_cons (by simp) hinv ?_
                refine (hD κ' φ' w' da .returning F'.objs F'.bnd d2 d3).mono ?_
                rintro e2 u2 w2 ⟨rfl, v2, κ2, φ2, rfl, k1, k2, k3, k4⟩
                have M := Mono.of_fr k3 k4
                have F2 : FRel κ2 φ2 w2 (dst f.ntmps [p] R1 O2) a' := ⟨fun t => (F'.regs t).mono M, k1, k2, F'.n, F'.df.mono M⟩
                obtain ⟨v, hrun, hv⟩ := results_rel F2 hres
                have hK := KpM.kp K' (objs_lt h1)
                exact ⟨v, hrun, v, κ2, φ2, rfl, hv, k1, k2, R'.trans k3, hK.trans k4⟩
        | _ :: _ :: _, hret, _ => cases hret

noncomputable def fMachD (defs : Nat → Bool) (hooks : Nat → Hook) (fn : Nat → Option Func) (cf : Cfg) (has : Nat → Bool) (fuel : Nat) (d : Nat) : FCall :=
  Nat.rec (motive := fun _ => FCall) (fun _ _ _ _ _ => none)
    (fun _ ih g => Bool.rec (motive := fun _ => List RV → OT → Nat → RK → Ans) (fFunH hooks fn cf has fuel ih g) (fFunD fn cf has fuel ih (fFunH hooks fn cf has fuel ih) g) (defs g)) d

theorem fMachD_ok {cf : Cfg} (hcf : CfOk P cf) (hmix : P.follows .mixedOrders = true) {defs : Nat → Bool} {hooks : Nat → Hook} {fn : Nat → Option Func} (hks : ∀ g f body, fn g = some f → f.body = some body → ∀ fin, HookOk P f.ntmps 1048576 fin body (hooks g)) (hfn : ∀ g f, fn g = some f → P.funcs[g]? = some f) {has : Nat → Bool} (fuel : Nat) : ∀ d, FSound P (fMachD defs hooks fn cf has fuel d)
  | 0 => fun g args O nx kont a h => by cases h
  | d + 1 => fun g args O nx kont a h => by
    have ih := fMachD_ok (defs := defs) hcf hmix hks hfn (has := has) fuel d
    have hh : Bool.rec (motive := fun _ => List RV → OT → Nat → RK → Ans) (fFunH hooks fn cf has fuel (fMachD defs hooks fn cf has fuel d) g) (fFunD fn cf has fuel (fMachD defs hooks fn cf has fuel d) (fFunH hooks fn cf has fuel (fMachD defs hooks fn cf has fuel d)) g) (defs g) args O nx kont = some a := h
    cases hd : defs g with
    | false => rw [hd] at hh; exact fFunH_ok hcf hmix hks hfn ih fuel g args O nx kont a hh
    | true => rw [hd] at hh; exact fFunD_ok hcf hmix hfn ih (fFunH_okD hcf hmix hks hfn ih fuel) fuel g args O nx kont a hh

/-- A closed run is a contract. -/
theorem C_of_frunD {cf : Cfg} (hcf : CfOk P cf) (hmix : P.follows .mixedOrders = true) {defs : Nat → Bool} {hooks : Nat → Hook} {fn : Nat → Option Func} (hks : ∀ g f body, fn g = some f → f.body = some body → ∀ fin, HookOk P f.ntmps 1048576 fin body (hooks g)) (hfn : ∀ g f, fn g = some f → P.funcs[g]? = some f) (has : Nat → Bool) (fuel d : Nat) {f : Nat} {args : List RV} {objs : List PObj} {r : RV} {os : List PObj}
    (h : konV (callOf (fMachD defs hooks fn cf has fuel d)) f args objs = some (r, os, [])) : C P f args objs (fun r2 o2 => r2 = r ∧ o2 = os) :=
  konV_ok (callOf_ok (fMachD_ok hcf hmix hks hfn fuel d)) f args objs r os [] h (by simp)

end Go.Am

/-
  slices.Insert at rows of cells of any size: what its run must be, and the contract that comes of it.
-/
namespace Go.Am
set_option linter.unusedSectionVars false
variable {P : Program} [Gl]

theorem ins_rl {κ : Kap} {φ : Phi} {O : Tab} {h : Heap} {C1 C2 C' : Array Value} {cs cs2 : List RV} {a m d : Nat} (r1 : RL κ φ O h C1 0 cs) (r2 : RL κ φ O h C2 0 cs2) (h1 : a + d ≤ cs.length) (h2 : m ≤ cs2.length)
    (hs : a + m + d ≤ C'.size) (e1 : ∀ j, j < a → C'[j]? = C1[j]?) (e2 : ∀ j, j < m → C'[a + j]? = C2[j]?) (e3 : ∀ j, j < d → C'[a + m + j]? = C1[a + j]?) :
    RL κ φ O h C' 0 (cs.take a ++ cs2.take m ++ (cs.drop a).take d) := by
  have l1 : (cs.take a).length = a := by simp; omega
  have l2 : (cs2.take m).length = m := by simp; omega
  have l3 : ((cs.drop a).take d).length = d := by simp; omega
  refine ⟨by simp only [List.length_append, l1, l2, l3]; omega, fun j x v hx hv => ?_⟩
  rw [Nat.zero_add] at hv
  by_cases k1 : j < a
  · rw [List.append_assoc, List.getElem?_append_left (by omega), List.getElem?_take, if_pos k1] at hx
    rw [e1 j k1] at hv
    exact r1.2 j x v hx (by simpa using hv)
  · by_cases k2 : j < a + m
    · rw [List.append_assoc, List.getElem?_append_right (by omega), List.getElem?_append_left (by omega), l1, List.getElem?_take, if_pos (by omega)] at hx
      have := e2 (j - a) (by omega)
      rw [show a + (j - a) = j by omega] at this
      rw [this] at hv
      exact r2.2 (j - a) x v hx (by simpa using hv)
    · rw [List.getElem?_append_right (by simp only [List.length_append, l1, l2]; omega)] at hx
      simp only [List.length_append, l1, l2] at hx
      have hlt := (List.getElem?_eq_some_iff.1 hx).1
      rw [l3] at hlt
      rw [List.getElem?_take, if_pos hlt, List.getElem?_drop] at hx
      have := e3 (j - (a + m)) hlt
      rw [show a + m + (j - (a + m)) = j by omega] at this
      rw [this] at hv
      exact r1.2 _ x v hx (by simpa using hv)

/-- A copy from a row of cells into a row of cells, of elements of any size. -/
theorem run_copyB {w : World} {t t2 ty e z : Nat} (hu : (Env.of P).und t = some (.slice e)) (hz : (Env.of P).size e = some z) {b o1 n1 c1 b2 o2 n2 c2 : Nat} {C C2 : Array Value} {T T2 : TypeId} {fz fz2 : Nat × Nat}
    (hb : w.heap[b]? = some (.cells C T fz)) (hf : FzOk fz C.size) (hb2 : w.heap[b2]? = some (.cells C2 T2 fz2)) {k : Nat} (hk : Nat.min n2 n1 = k) (h1 : o1 + k * z ≤ C.size) (h2 : o2 + k * z ≤ C2.size)
    (hone : ∀ (j : Nat) (v : Value), j < k * z → C2[o2 + j]? = some v → v.oneCell = true) :
    (Builtin.copy_ #[t, t2] ty #[.slice (some ⟨b, o1, none⟩) n1 c1, .slice (some ⟨b2, o2, none⟩) n2 c2]).run P w = .ok (goInt k) (World.row w b (.cells (splA C o1 (C2.extract o2 (o2 + k * z)).toList) T fz)) := by
  have q0 : (#[t, t2] : Array TypeId)[0]? = some t := rfl
  have q1 : ∀ u v : Value, (#[u, v] : Array Value)[0]? = some u := fun _ _ => rfl
  have q2 : ∀ u v : Value, (#[u, v] : Array Value)[1]? = some v := fun _ _ => rfl
  have hl : (Builtin.lenOf (.slice (some ⟨b2, o2, none⟩) n2 c2)).run P w = .ok n2 w := rfl
  have hX : (Builtin.firstCells z k (.slice (some ⟨b2, o2, none⟩) n2 c2)).run P w = .ok (C2.extract o2 (o2 + k * z)) w := by
    simp only [Builtin.firstCells]
    exact run_loadCells_at hb2 (by omega)
  have hXs : (C2.extract o2 (o2 + k * z)).size = k * z := by simp; omega
  have hone' : ∀ v ∈ (C2.extract o2 (o2 + k * z)).toList, v.oneCell = true := fun v hv => by
    obtain ⟨j, hj⟩ := List.mem_iff_getElem?.1 hv
    have hlt := (List.getElem?_eq_some_iff.1 hj).1
    rw [Array.length_toList, hXs] at hlt
    rw [Array.getElem?_toList, Array.getElem?_extract] at hj
    split at hj
    · exact hone j v hlt hj
    · cases hj
  have hst := run_storeCells_any (P := P) b o1 T fz (C2.extract o2 (o2 + k * z)).toList 0 C w hb hf (by rw [Array.length_toList, hXs]; omega) hone'
  simp only [Builtin.copy_, q0, q1, q2, Sem.run_bind, run_und hu, Result.andThen_ok, hl, hk, run_sizeOf' hz, hX, Sem.run_pure]
  rw [hst]
  simp

/-- What a run of slices.Insert must be, where i < len(s) and something is inserted. -/
def InsCalls (P : Program) (f : Nat) (e : TypeId) (sz by_ : Nat) : Prop :=
  ∀ (b n c i vb m vc : Nat) (C1 C2 : Array Value) (fz1 fz2 : Nat × Nat) (w : World), i < n → 1 ≤ m → n ≤ c → c * sz ≤ C1.size → m * sz ≤ C2.size → vb ≠ b →
    w.heap[b]? = some (.cells C1 e fz1) → FzOk fz1 C1.size → w.heap[vb]? = some (.cells C2 e fz2) → FzOk fz2 C2.size → fz2.2 ≤ C2.size →
    (∀ (j : Nat) (v : Value), j < n * sz → C1[j]? = some v → v.oneCell = true) → (∀ (j : Nat) (v : Value), j < m * sz → C2[j]? = some v → v.oneCell = true) → (n + m) * by_ ≤ 2 ^ 38 →
    Calls P f #[.slice (some ⟨b, 0, none⟩) n c, .int .i64 i, .slice (some ⟨vb, 0, none⟩) m vc] w fun x w' =>
      ∃ (b' c' : Nat) (C' : Array Value), x = .returned (.slice (some ⟨b', 0, none⟩) (n + m) c') ∧ n + m ≤ c' ∧ c' * sz ≤ C'.size ∧
        ((b' = b ∧ C'.size = C1.size ∧ w'.heap = (World.row w b (.cells C' e fz1)).heap) ∨ (b' = w.heap.size ∧ w'.heap = w.heap.push (.cells C' e (0, 0)))) ∧ w'.os = w.os ∧ w'.output = w.output ∧
        (∀ j, j < i * sz → C'[j]? = C1[j]?) ∧ (∀ j, j < m * sz → C'[i * sz + j]? = C2[j]?) ∧ (∀ j, j < (n - i) * sz → C'[i * sz + m * sz + j]? = C1[i * sz + j]?)

theorem ins_frel {κ : Kap} {φ : Phi} {w : World} {objs : List PObj} (h1 : ∀ i, OR κ φ (tabOf objs) w.heap i (tabOf objs i)) (h2 : Bnd κ w) :
    FRel κ φ w { n := 0, R := fun _ => .bot, O := tabOf objs } { tmps := #[], defers := [] } := ⟨fun _ => .bot _, h1, h2, rfl, trivial⟩

theorem tab_ins (p x : PObj) (r : List PObj) : setT (setT (tabOf (p :: r)) 0 (some .gone)) (r.length + 1) (some x) = tabOf (.gone :: r ++ [x]) := by
  funext i
  unfold setT tabOf
  by_cases e : i = r.length + 1
  · subst e; simp
  · rw [if_neg e]
    cases i with
    | zero => simp
    | succ i =>
      simp only [Nat.add_eq_zero_iff, Nat.one_ne_zero, and_false, if_false, List.getElem?_cons_succ, List.cons_append]
      have e : i ≠ r.length := fun h => e (by omega)
      by_cases h : i < r.length
      · rw [List.getElem?_append_left h]
      · rw [List.getElem?_eq_none (by omega), List.getElem?_eq_none (by simp; omega)]

theorem sl_val {κ : Kap} {φ : Phi} {O : Tab} {h : Heap} {i sz o len b : Nat} {cap : Option Nat} {v : Value} {c : Array Value} {ty : TypeId} {fz : Nat × Nat} (r : RVR κ φ O h (.sl i sz o len cap) v) (hφ : φ i = .at b)
    (hb : h[b]? = some (.cells c ty fz)) (h1 : 1 ≤ len) : ∃ capv, v = .slice (some ⟨b, o, none⟩) len capv ∧ o + capv * sz ≤ c.size ∧ len ≤ capv := by
  cases r with
  | @sl _ _ _ _ _ b' o' capv c' ty' fz' hφ' hb' ho hs hl hc hn =>
    rw [hφ] at hφ'; injection hφ' with hφ'; subst hφ'
    rw [hb] at hb'; injection hb' with hb'; injection hb' with e1 e2 e3; subst e1
    have : o' = o := by rcases ho with h | h; exact h; omega
    subst this
    exact ⟨capv, rfl, hs, hl⟩

theorem ins_c {f : Nat} {e : TypeId} {sz by_ : Nat} (hf : InsCalls P f e sz by_) (hmk : Gl.mark e = false) {n i m : Nat} {k : Option Nat} {cs cs2 : List RV} {r : List PObj}
    (hi : i < n) (hm : 1 ≤ m) (hn : n * sz ≤ cs.length) (hm2 : m * sz ≤ cs2.length) (hb : (n + m) * by_ ≤ 2 ^ 38) :
    C P f [.sl 0 sz 0 n none, .d (.int .i64 i), .sl 1 sz 0 m k] (.rar e cs :: .rar e cs2 :: r)
      (fun v o => v = .sl (r.length + 2) sz 0 (n + m) none ∧ o = .gone :: .rar e cs2 :: r ++ [.rar e (cs.take (i * sz) ++ cs2.take (m * sz) ++ (cs.drop (i * sz)).take ((n - i) * sz))]) := by
  intro κ φ w vs h1 h2 h3 h4
  have hs : vs.size = 3 := by simpa using h3
  obtain ⟨v0, v1, v2, rfl⟩ : ∃ v0 v1 v2, vs = #[v0, v1, v2] := by
    refine ⟨vs[0], vs[1], vs[2], ?_⟩
    apply Array.ext
    · simpa using hs
    · intro i hi hi2
      simp at hi2
      match i, hi2 with
      | 0, _ => rfl
      | 1, _ => rfl
      | 2, _ => rfl
  have q0 := h4 0 _ v0 rfl rfl
  have q1 := h4 1 _ v1 rfl rfl
  have q2 := h4 2 _ v2 rfl rfl
  cases q1 with
  | d hd =>
  cases hd
  have o0 := h1 0
  have o1 := h1 1
  have et0 : tabOf (PObj.rar e cs :: .rar e cs2 :: r) 0 = some (.rar e cs) := rfl
  have et1 : tabOf (PObj.rar e cs :: .rar e cs2 :: r) 1 = some (.rar e cs2) := rfl
  rw [et0] at o0
  rw [et1] at o1
  obtain ⟨b, C1, fz1, b1, b2, b3, b4, b5⟩ := o0
  obtain ⟨vb, C2, fz2, c1, c2, c3, c4, c5⟩ := o1
  have hne : vb ≠ b := fun h => by subst h; rw [b2] at c2; injection c2 with c2; cases c2
  obtain ⟨capv1, rfl, hcs, hl⟩ := sl_val q0 b1 b3 (by omega)
  obtain ⟨capv2, rfl, hcs2, hl2⟩ := sl_val q2 c1 c3 hm
  have hone1 : ∀ (j : Nat) (v : Value), j < n * sz → C1[j]? = some v → v.oneCell = true := fun j v hj hv => by
    have hj2 : j < cs.length := by omega
    exact (b5.2 j _ v (List.getElem?_eq_getElem hj2) (by simpa using hv)).2
  have hone2 : ∀ (j : Nat) (v : Value), j < m * sz → C2[j]? = some v → v.oneCell = true := fun j v hj hv => by
    have hj2 : j < cs2.length := by omega
    exact (c5.2 j _ v (List.getElem?_eq_getElem hj2) (by simpa using hv)).2
  have F := ins_frel h1 h2
  obtain ⟨F1, M1, R1⟩ := F.gone 0 (by rw [b1]; simp)
  have hsz2 : m * sz ≤ C2.size := by have := c5.1; omega
  refine (hf b n capv1 i vb m capv2 C1 C2 fz1 fz2 w hi hm hl (by omega) hsz2 hne b3 b4.1 c3 c4.1 (c4.2 hmk) hone1 hone2 hb).mono ?_
  rintro x w' ⟨b', c', C', rfl, k1, k2, k3, kos, kout, k4, k5, k6⟩
  have hexp : (n - i) * sz + i * sz = n * sz := by rw [← Nat.add_mul]; congr 1; omega
  have hle := Nat.mul_le_mul_right sz k1
  rw [Nat.add_mul] at hle
  have hnew := ins_rl (C' := C') (a := i * sz) (m := m * sz) (d := (n - i) * sz) b5 c5 (by omega) hm2 (by omega) k4 k5 k6
  have hdl : (tabOf (PObj.rar e cs :: .rar e cs2 :: r)) (r.length + 2) = none := by simp [tabOf]
  have hd1 : setT (tabOf (PObj.rar e cs :: .rar e cs2 :: r)) 0 (some .gone) (r.length + 2) = none := by rw [setT_ne _ _ (by omega)]; exact hdl
  have etab := tab_ins (.rar e cs) (.rar e (cs.take (i * sz) ++ cs2.take (m * sz) ++ (cs.drop (i * sz)).take ((n - i) * sz))) (.rar e cs2 :: r)
  simp only [List.length_cons] at etab
  have hlen : (cs.take (i * sz) ++ cs2.take (m * sz) ++ (cs.drop (i * sz)).take ((n - i) * sz)).length = (n + m) * sz := by
    simp only [List.length_append, List.length_take, List.length_drop, Nat.add_mul]; omega
  have hgone : setT (tabOf (PObj.rar e cs :: PObj.rar e cs2 :: r)) 0 (some .gone) 0 = some .gone := setT_same _ _ _
  have hun : φ (r.length + 2) = .un := by have := F1.objs (r.length + 2); simp only [hd1] at this; exact this
  have key : ∃ κ', FRel κ' (setP φ (r.length + 2) (.at b')) w' { n := 0, R := fun _ => .bot, O := tabOf (.gone :: (.rar e cs2 :: r) ++ [.rar e (cs.take (i * sz) ++ cs2.take (m * sz) ++ (cs.drop (i * sz)).take ((n - i) * sz))]) } { tmps := #[], defers := [] } ∧
      Mono κ φ (setT (tabOf (PObj.rar e cs :: .rar e cs2 :: r)) 0 (some .gone)) w.heap κ' (setP φ (r.length + 2) (.at b')) (tabOf (.gone :: (.rar e cs2 :: r) ++ [.rar e (cs.take (i * sz) ++ cs2.take (m * sz) ++ (cs.drop (i * sz)).take ((n - i) * sz))])) w'.heap ∧ Fr κ w κ' w' ∧ ∃ ty fz, w'.heap[b']? = some (.cells C' ty fz) := by
    rcases k3 with ⟨rfl, g1, g2⟩ | ⟨rfl, g2⟩
    · obtain ⟨q1, q2, q3⟩ := F1.upd1 (i := r.length + 2) (p := .rar e (cs.take (i * sz) ++ cs2.take (m * sz) ++ (cs.drop (i * sz)).take ((n - i) * sz))) (κ' := setK κ b' (.own (r.length + 2))) (φ' := setP φ (r.length + 2) (.at b')) (w' := w')
        (by rw [g2]; simp [World.row]) (fun x hx => by rw [setK_ne _ _ (fun e => by subst e; rw [b2] at hx; cases hx)]; exact hx)
        (fun x j hj hg hx => by rw [setK_ne _ _ (fun e => by subst e; rw [b2] at hx; injection hx with hx; subst hx; exact hg hgone)]; exact hx)
        (fun x _ hx => by rw [setK_ne _ _ (fun e => by subst e; rw [b2] at hx; cases hx)]; exact hx)
        (fun x hx _ hg => by rw [g2]; exact row_heap_ne _ _ (fun e => by subst e; exact hg 0 b2 hgone))
        (fun j hj => setP_ne _ _ hj) (fun h => absurd hun h)
        (fun x c0 ty0 fz0 hc0 => by
          by_cases e : x = b'
          · subst e; rw [b3] at hc0; injection hc0 with hc0; injection hc0 with e1 e2 e3; subst e1; subst e2
            exact ⟨_, _, by rw [g2]; exact row_heap b3, g1⟩
          · exact ⟨c0, fz0, by rw [g2, row_heap_ne _ _ e]; exact hc0, rfl⟩)
        (fun h => absurd hun h)
        (fun x hx => by
          rw [g2]
          simp only [World.row, Array.size_setIfInBounds]
          by_cases e : x = b'
          · subst e; exact lt_of_get b3
          · rw [setK_ne _ _ e] at hx; exact F1.bnd.lt x hx)
        (fun M => ⟨b', C', fz1, setP_same _ _ _, setK_same _ _ _, by rw [g2]; exact row_heap b3, by rw [g1]; exact b4, RL.mono M (RL.mono M1 hnew)⟩) ⟨kos, kout⟩
      simp only [etab] at q1 q2
      exact ⟨_, q1, q2, q3, _, _, by rw [g2]; exact row_heap b3⟩
    · obtain ⟨q1, q2, q3⟩ := F1.alloc (i := r.length + 2) (p := .rar e (cs.take (i * sz) ++ cs2.take (m * sz) ++ (cs.drop (i * sz)).take ((n - i) * sz))) (o := .cells C' e (0, 0)) (w' := w') g2 hd1
        (fun M => ⟨_, C', (0, 0), setP_same _ _ _, setK_same _ _ _, by rw [g2]; exact heap_push_eq _ _, fzR00 _ _, RL.mono M (RL.mono M1 hnew)⟩) ⟨kos, kout⟩
      simp only [etab] at q1 q2
      exact ⟨_, q1, q2, q3, _, _, by rw [g2]; exact heap_push_eq _ _⟩
  obtain ⟨κ', F2, M2, R2, ty', fz', hb'⟩ := key
  refine ⟨_, _, _, κ', setP φ (r.length + 2) (.at b'), rfl, ⟨rfl, rfl⟩, ?_, F2.objs, F2.bnd, by simp, R2, (M1.trans M2).kp⟩
  refine .sl (setP_same _ _ _) hb' (.inl rfl) (by omega) k1 (fun k e => by cases e) (fun _ x hx => ?_)
  have hx2 : (tabOf (PObj.gone :: (PObj.rar e cs2 :: r) ++ [.rar e (cs.take (i * sz) ++ cs2.take (m * sz) ++ (cs.drop (i * sz)).take ((n - i) * sz))])) (r.length + 2) = some (.rar e (cs.take (i * sz) ++ cs2.take (m * sz) ++ (cs.drop (i * sz)).take ((n - i) * sz))) := by
    rw [← etab]; exact setT_same _ _ _
  have hx3 : PObj.len? (tabOf (PObj.gone :: (PObj.rar e cs2 :: r) ++ [.rar e (cs.take (i * sz) ++ cs2.take (m * sz) ++ (cs.drop (i * sz)).take ((n - i) * sz))]) (r.length + 2)) = some x := hx
  rw [hx2] at hx3
  simp only [PObj.len?, Option.some.injEq] at hx3
  rw [hlen, Nat.add_mul] at hx3
  omega

end Go.Am

/-
  Straight code that lays package-level variables: steps of its run.
-/
namespace Go.Am
set_option linter.unusedSectionVars false
variable {P : Program} [Gl]

def isValR : Result Next → Bool
  | .ok (.value _) _ => true
  | _ => false
def vOf : Result Next → Value
  | .ok (.value v) _ => v
  | _ => undef
def wOf (d : World) : Result Next → World
  | .ok (.value _) w => w
  | _ => d

theorem wpOps_run {ops : Array Oper} {Q : Exit → Act → World → Prop} {i : Nat} {rest : List Nat} {o : Oper} {a : Act} {w : World} (hi : ops[i]? = some o) (hg : o.guard.isNone = true) (hr : isValR ((execOp a.eval o).run P w) = true)
    (h : wpOps P ops Q rest (a.put o.dst (vOf ((execOp a.eval o).run P w))) (wOf w ((execOp a.eval o).run P w))) : wpOps P ops Q (i :: rest) a w := by
  rw [wpOps_cons]
  unfold wpOp
  rw [hi]
  have hg : o.guard = none := by simpa using hg
  simp only [Region.wanted, hg, if_true]
  left
  cases hx : (execOp a.eval o).run P w with
  | halt e w' => rw [hx] at hr; cases hr
  | ok n w' =>
    rw [hx] at hr h
    cases n <;> first | (cases hr; done) | exact wp_value hx h

theorem wpOps_st {ops : Array Oper} {Q : Exit → Act → World → Prop} {i : Nat} {rest : List Nat} {o : Oper} {a : Act} {w : World} {t g z : Nat} {x : Operand} {c : Array Value} {ty : TypeId} (hi : ops[i]? = some o) (hg : o.guard.isNone = true)
    (hop : o.op = .store t (.global g) x) (hz : (Env.of P).size t = some z) (hev : a.eval (.global g) = .pointer (some ⟨g, 0, none⟩)) (hb : w.heap[g]? = some (.cells c ty (0, 0)))
    (hc : (Nat.beq (a.eval x).cells.size z && Nat.ble z c.size && (a.eval x).cells.toList.all Value.oneCell) = true)
    (h : wpOps P ops Q rest (a.put o.dst undef) (World.row w g (.cells (splA c 0 (a.eval x).cells.toList) ty (0, 0)))) : wpOps P ops Q (i :: rest) a w := by
  rw [wpOps_cons]
  unfold wpOp
  rw [hi]
  have hg : o.guard = none := by simpa using hg
  simp only [Region.wanted, hg, if_true]
  left
  simp only [Bool.and_eq_true] at hc
  have h1 := nbE hc.1.1
  have h2 := Nat.le_of_ble_eq_true hc.1.2
  have hrun := run_storeAt (P := P) (t := t) (z := z) (b := g) (o := 0) (v := a.eval x) hz hb (fun o _ h => by omega) h1 (by omega) (fun y hy => List.all_eq_true.1 hc.2 y (by simpa using hy))
  refine wp_skip' (w' := World.row w g (.cells (splA c 0 (a.eval x).cells.toList) ty (0, 0))) ?_ h
  simp only [execOp, hop, hev, Sem.run_bind, hrun, Result.andThen_ok, Sem.run_pure]

theorem wpOps_call {ops : Array Oper} {Q : Exit → Act → World → Prop} {i : Nat} {rest : List Nat} {o : Oper} {a : Act} {w w' : World} {f : FuncId} {args : Array Value} {v : Value} (hi : ops[i]? = some o) (hg : o.guard.isNone = true)
    (hr : (execOp a.eval o).run P w = .ok (.enter f args) w) (hC : Calls P f args w fun e w2 => e = .returned v ∧ w2 = w') (h : wpOps P ops Q rest (a.put o.dst v) w') : wpOps P ops Q (i :: rest) a w := by
  rw [wpOps_cons]
  unfold wpOp
  rw [hi]
  have hg : o.guard = none := by simpa using hg
  simp only [Region.wanted, hg, if_true]
  left
  unfold Oper.wp
  rw [hr, Oper.upon_enter]
  refine hC.mono ?_
  rintro e w2 ⟨rfl, rfl⟩
  exact h

theorem wp_seq_reg {id : Nat} {ops : Array Oper} {y : Code} {Q : Exit → Act → World → Prop} {a : Act} {w : World} (h : wpOps P ops (fun e a2 w2 => e = .normal ∧ Code.wp P y Q a2 w2) (List.range ops.size) a w) :
    Code.wp P (.seq (.region id ops false) y) Q a w := by
  intro b k cs
  obtain ⟨e, a2, w2, ⟨rfl, hy⟩, harr⟩ := wp_region (id := id) h b (.code y :: k) cs
  obtain ⟨e, a3, w3, hq, harr2⟩ := hy b k cs
  exact ⟨e, a3, w3, hq, Arrives.of_steps (Steps.trans (Steps.one step_seq) harr) harr2⟩
end Go.Am

/-
  The abstract machine: the arguments of a law, read as data; a law's statement out of its contract.
-/
namespace Go.Am
set_option linter.unusedSectionVars false
open Go.RowKit Go.ChangeShapes Go.WideShapes Go.ChangeAt
variable {P : Program} [Gl]

def isAggT (P : Program) (t : TypeId) : Bool := match P.underlying t with
  | some (.struct _) => true
  | some (.array _ _) => true
  | _ => false

def elOf (agg : Bool) (cs : List DV) : DV := bif agg then .agg cs else cs.headD .nilp

/-- The cells of a value of a type, as data. -/
inductive Ty (P : Program) : TypeId → List DV → Prop
  | bool {t : TypeId} (h : P.underlying t = some .bool) (b : Bool) : Ty P t [.bool b]
  | int {t : TypeId} {k : IntKind} (h : P.underlying t = some (.int k)) {n : Int} (hw : (Lit.int k n).wf = true) : Ty P t [.int k n]
  | str {t : TypeId} (h : P.underlying t = some .string) {s : List UInt8} (hs : s.length ≤ maxLen) : Ty P t [.str s]
  | lst {t e : TypeId} (h : P.underlying t = some (.slice e)) {els : List DV} (hn : els.length ≤ maxLen)
      (hx : ∀ x ∈ els, x = elOf (isAggT P e) x.cells ∧ x.cells.length = P.cellsOf e) (he : ∀ x ∈ els, Ty P e x.cells) : Ty P t [.lst (P.cellsOf e) els false]
  | struct {t : TypeId} {fs : Array Field} (h : P.underlying t = some (.struct fs)) {cs : List DV} (hl : cs.length = P.cellsOf t)
      (hf : ∀ f ∈ fs, Ty P f.type ((cs.drop f.offset).take (P.cellsOf f.type))) : Ty P t cs

def okFs (P : Program) (ok : TypeId → Bool) : Nat → List Field → Nat → Bool
  | k, [], z => Nat.beq k z
  | k, f :: fs, z => Nat.beq f.offset k && ok f.type && okFs P ok (k + P.cellsOf f.type) fs z
def okT (P : Program) : Nat → TypeId → Bool
  | 0, _ => false
  | n + 1, t => match P.underlying t with
    | some .bool => Nat.beq (P.cellsOf t) 1
    | some (.int _) => Nat.beq (P.cellsOf t) 1
    | some .string => Nat.beq (P.cellsOf t) 1
    | some (.slice e) => Nat.beq (P.cellsOf t) 1 && Nat.ble 1 (P.cellsOf e) && (isAggT P e || Nat.beq (P.cellsOf e) 1) && okT P n e
    | some (.struct fs) => okFs P (okT P n) 0 fs.toList (P.cellsOf t)
    | _ => false

theorem mapM_get {α β : Type} {f : α → Option β} : ∀ {l : List α} {r : List β}, l.mapM f = some r → r.length = l.length ∧ ∀ (i : Nat) (x : α) (y : β), l[i]? = some x → r[i]? = some y → f x = some y
  | [], r, h => by simp at h; subst h; simp
  | x :: l, r, h => by
    rw [List.mapM_cons] at h
    cases hx : f x with
    | none => simp [hx] at h
    | some y =>
      cases hl : l.mapM f with
      | none => simp [hx, hl] at h
      | some q =>
        simp [hx, hl] at h; subst h
        obtain ⟨g1, g2⟩ := mapM_get hl
        refine ⟨by simp [g1], fun i a b ha hb => ?_⟩
        cases i with
        | zero => simp at ha hb; subst ha; subst hb; exact hx
        | succ i => exact g2 i a b (by simpa using ha) (by simpa using hb)

def DRs (κ : Kap) (h : Heap) (xs : List DV) (cs : List Value) : Prop :=
  xs.length = cs.length ∧ (∀ y ∈ xs, y.scal = true) ∧ ∀ (i : Nat) (x : DV) (v : Value), xs[i]? = some x → cs[i]? = some v → DR κ h x v

theorem DRs.one {κ : Kap} {h : Heap} {x : DV} {v : Value} (hs : x.scal = true) (r : DR κ h x v) : DRs κ h [x] [v] :=
  ⟨rfl, by simp [hs], fun i x' v' hx hv => by
    cases i with
    | zero => simp at hx hv; subst hx; subst hv; exact r
    | succ i => simp at hx⟩

theorem DRs.append {κ : Kap} {h : Heap} {xs ys : List DV} {cs ds : List Value} (a : DRs κ h xs cs) (b : DRs κ h ys ds) : DRs κ h (xs ++ ys) (cs ++ ds) := by
  refine ⟨by simp [a.1, b.1], fun y hy => ?_, fun i x v hx hv => ?_⟩
  · rcases List.mem_append.1 hy with hy | hy
    · exact a.2.1 y hy
    · exact b.2.1 y hy
  · by_cases hi : i < xs.length
    · rw [List.getElem?_append_left hi] at hx
      rw [List.getElem?_append_left (by have := a.1; omega)] at hv
      exact a.2.2 i x v hx hv
    · rw [List.getElem?_append_right (by omega)] at hx
      rw [List.getElem?_append_right (by have := a.1; omega), ← a.1] at hv
      exact b.2.2 _ x v hx hv

/-- At a law's entry nobody writes what is there. -/
def κ0 (w : World) : Kap := fun b => if b < w.heap.size then .imm else .oth

theorem cells_get {w : World} {base : Nat} {a : Addr} {n : Nat} {cs : List Value} (h : w.cells? base a n = some cs) : base ≤ a.block ∧ cs.length = n ∧ ∀ j, j < n → w.cell? (a.add j) = cs[j]? := by
  unfold World.cells? at h
  split at h
  · rename_i hb
    obtain ⟨g1, g2⟩ := mapM_get h
    simp at g1
    refine ⟨hb, g1, fun j hj => ?_⟩
    have e : cs[j]? = some cs[j] := by simp [show j < cs.length by omega]
    have := g2 j j cs[j] (by simp [hj]) e
    rw [this, e]
  · cases h

section
variable {H : Type} {enc : TypeId × Value → H} {w : World}

theorem elOf_cells {agg : Bool} {cs : List DV} (hs : ∀ y ∈ cs, y.scal = true) (h : agg = true ∨ cs.length = 1) : (elOf agg cs).cells = cs := by
  cases agg with
  | true => rfl
  | false =>
    have hl : cs.length = 1 := by rcases h with h | h; cases h; exact h
    match cs, hl with
    | [x], _ =>
      have := hs x (by simp)
      show x.cells = [x]
      cases x <;> first | rfl | (simp [DV.scal] at this)

theorem lt_heap {w : World} {b : Nat} {o : Obj} (e : w.heap[b]? = some o) : b < w.heap.size := by
  rcases Nat.lt_or_ge b w.heap.size with h' | h'
  · exact h'
  · rw [Array.getElem?_eq_none h'] at e; simp at e

theorem cell_form {w : World} {a : Addr} {v : Value} (h : w.cell? a = some v) : a.spot = none ∧ ∃ c ty fz, w.heap[a.block]? = some (.cells c ty fz) ∧ c[a.off]? = some v := by
  unfold World.cell? at h
  cases hb : w.heap[a.block]? with
  | none => rw [hb] at h; simp at h
  | some o =>
    rw [hb] at h
    cases o <;> simp at h
    rename_i c ty fz
    exact ⟨h.1, c, ty, fz, rfl, h.2⟩

theorem trod_slice {t e : TypeId} {fuel : Nat} (ht : P.underlying t = some (.slice e)) (hc1 : 1 ≤ P.cellsOf e) (hagg : isAggT P e = true ∨ P.cellsOf e = 1)
    (ih : ∀ (cs : List Value) (x : DataW H × List MemPlace), DataW.trod enc P w 0 (fun _ => true) true fuel e cs = some x → ∃ xs, xs.length = P.cellsOf e ∧ DRs (κ0 w) w.heap xs cs ∧ Ty P e xs)
    {cs : List Value} {x : DataW H × List MemPlace} (h : DataW.trod enc P w 0 (fun _ => true) true (fuel + 1) t cs = some x) : ∃ xs, xs.length = 1 ∧ DRs (κ0 w) w.heap xs cs ∧ Ty P t xs := by
  unfold DataW.trod at h
  rw [ht] at h
  match cs, h with
  | [.slice none 0 0], _ => exact ⟨[.lst (P.cellsOf e) [] false], rfl, .one rfl (.lst0 (fun h => by cases h)), .lst ht (by simp) (by simp) (by simp)⟩
  | [.slice (some a) len cap], h =>
    simp only at h
    split at h
    · rename_i hcond
      simp only [if_true, Option.bind_eq_some_iff, Option.map_eq_some_iff] at h
      obtain ⟨elems, he, rest, hr, _⟩ := h
      obtain ⟨e1, e2⟩ := mapM_get he
      obtain ⟨r1, r2⟩ := mapM_get hr
      simp only [List.length_range] at e1 r1
      have elem : ∀ i, i < cap → ∃ cs' x', w.cells? 0 (a.add (i * P.cellsOf e)) (P.cellsOf e) = some cs' ∧ DataW.trod enc P w 0 (fun _ => true) true fuel e cs' = some x' := by
        intro i hi
        by_cases hl : i < len
        · have q : elems[i]? = some elems[i] := by simp [show i < elems.length by omega]
          have := e2 i i _ (by simp [hl]) q
          simp only [Option.bind_eq_some_iff] at this
          obtain ⟨c, h1, h2⟩ := this
          exact ⟨c, _, h1, h2⟩
        · have q : rest[i - len]? = some rest[i - len] := by simp [show i - len < rest.length by omega]
          have := r2 (i - len) (i - len) _ (List.getElem?_range (by omega)) q
          simp only [Option.bind_eq_some_iff] at this
          obtain ⟨c, h1, h2⟩ := this
          rw [show len + (i - len) = i by omega] at h1
          exact ⟨c, _, h1, h2⟩
      by_cases hl0 : len = 0
      · subst hl0
        exact ⟨[.lst (P.cellsOf e) [] false], rfl, .one rfl (.lst0 (fun h => by cases h)), .lst ht (by simp) (by simp) (by simp)⟩
      · -- the elements
        have hcap : 0 < cap := by omega
        obtain ⟨c0, x0, g0, _⟩ := elem 0 hcap
        obtain ⟨_, gl, gj⟩ := cells_get g0
        have g00 := gj 0 (by omega)
        have : c0[0]? = some c0[0] := by simp [show 0 < c0.length by omega]
        rw [this] at g00
        have ha0 : (a.add (0 * P.cellsOf e)).add 0 = a := by simp [Addr.add]
        rw [ha0] at g00
        obtain ⟨hsp, c, ty, fz, hb, _⟩ := cell_form g00
        obtain ⟨b, off, sp⟩ := a
        simp only at hsp hb; subst hsp
        have addr : ∀ i j, ((⟨b, off, none⟩ : Addr).add (i * P.cellsOf e)).add j = ⟨b, off + i * P.cellsOf e + j, none⟩ := fun i j => by rw [add_at, add_at]
        -- each element's cells lie in the block
        have cellAt : ∀ i, i < cap → ∀ cs', w.cells? 0 ((⟨b, off, none⟩ : Addr).add (i * P.cellsOf e)) (P.cellsOf e) = some cs' → cs'.length = P.cellsOf e ∧ ∀ j, j < P.cellsOf e → c[off + i * P.cellsOf e + j]? = cs'[j]? := by
          intro i _ cs' h'
          obtain ⟨_, k1, k2⟩ := cells_get h'
          refine ⟨k1, fun j hj => ?_⟩
          have := k2 j hj
          rw [addr, cell_at hb] at this
          exact this
        have hsize : off + cap * P.cellsOf e ≤ c.size := by
          obtain ⟨cs', _, h1, _⟩ := elem (cap - 1) (by omega)
          obtain ⟨k1, k2⟩ := cellAt (cap - 1) (by omega) cs' h1
          have := k2 (P.cellsOf e - 1) (by omega)
          have q : cs'[P.cellsOf e - 1]? = some cs'[P.cellsOf e - 1] := by simp [show P.cellsOf e - 1 < cs'.length by omega]
          rw [q] at this
          have := (Array.getElem?_eq_some_iff.1 this).1
          have e3 : cap * P.cellsOf e = (cap - 1) * P.cellsOf e + P.cellsOf e := by
            conv => lhs; rw [show cap = (cap - 1) + 1 by omega, Nat.add_mul, Nat.one_mul]
          omega
        have ex : ∀ i, ∃ xs : List DV, i < cap → xs.length = P.cellsOf e ∧ Ty P e xs ∧ (∀ y ∈ xs, y.scal = true) ∧ ∀ (j : Nat) (y : DV) (v : Value), xs[j]? = some y → c[off + i * P.cellsOf e + j]? = some v → DR (κ0 w) w.heap y v := by
          intro i
          by_cases hi : i < cap
          · obtain ⟨cs', x', h1, h2⟩ := elem i hi
            obtain ⟨xs, hx1, hx2, hx3⟩ := ih cs' x' h2
            obtain ⟨k1, k2⟩ := cellAt i hi cs' h1
            refine ⟨xs, fun _ => ⟨hx1, hx3, hx2.2.1, fun j y v hy hv => ?_⟩⟩
            have hj : j < P.cellsOf e := by have := (List.getElem?_eq_some_iff.1 hy).1; omega
            rw [k2 j hj] at hv
            exact hx2.2.2 j y v hy hv
          · exact ⟨[], fun h => absurd h hi⟩
        obtain ⟨F, hF⟩ := Classical.axiomOfChoice ex
        have hcells : ∀ i, i < cap → (elOf (isAggT P e) (F i)).cells = F i := fun i hi => elOf_cells (hF i hi).2.2.1 (by rcases hagg with h | h; exact .inl h; exact .inr (by rw [(hF i hi).1, h]))
        have mem : ∀ x ∈ (List.range len).map (fun i => elOf (isAggT P e) (F i)), ∃ i, i < len ∧ x = elOf (isAggT P e) (F i) := by
          intro x hx
          obtain ⟨i, hi, rfl⟩ := List.mem_map.1 hx
          exact ⟨i, by simpa using hi, rfl⟩
        have hlen : ((List.range len).map (fun i => elOf (isAggT P e) (F i))).length = len := by simp
        refine ⟨[.lst (P.cellsOf e) ((List.range len).map (fun i => elOf (isAggT P e) (F i))) false], rfl, .one rfl ?_, .lst ht (by rw [hlen]; omega) (fun x hx => ?_) (fun x hx => ?_)⟩
        · have := DR.lst (κ := κ0 w) (h := w.heap) (sz := P.cellsOf e) (els := (List.range len).map (fun i => elOf (isAggT P e) (F i))) (full := false) (b := b) (off := off) (cap := cap) (c := c) (ty := ty) (fz := fz)
            (by simp [κ0, lt_heap hb]) hb (fun h => by cases h) (by rw [hlen]; omega) hsize (fun x hx => by
              obtain ⟨i, hi, rfl⟩ := mem x hx
              rw [hcells i (by omega)]
              exact ⟨(hF i (by omega)).1, (hF i (by omega)).2.2.1⟩) (fun i x j y v hx hy hv => by
              have hi : i < len := by have := (List.getElem?_eq_some_iff.1 hx).1; rw [hlen] at this; exact this
              simp [hi] at hx; subst hx
              rw [hcells i (by omega)] at hy
              exact (hF i (by omega)).2.2.2 j y v hy hv)
          rw [hlen] at this; exact this
        · obtain ⟨i, hi, rfl⟩ := mem x hx
          rw [hcells i (by omega)]
          exact ⟨rfl, (hF i (by omega)).1⟩
        · obtain ⟨i, hi, rfl⟩ := mem x hx
          rw [hcells i (by omega)]
          exact (hF i (by omega)).2.1
    · cases h

theorem trod_fields {ok : TypeId → Bool} {g : TypeId → List Value → Option (DataW H × List MemPlace)}
    (ih : ∀ t, ok t = true → ∀ cs x, g t cs = some x → ∃ xs, xs.length = P.cellsOf t ∧ DRs (κ0 w) w.heap xs cs ∧ Ty P t xs) :
    ∀ (fs : List Field) (k z : Nat) (cs : List Value), okFs P ok k fs z = true → cs.length = z → k ≤ z → (∀ f ∈ fs, ∃ x, g f.type ((cs.drop f.offset).take (P.cellsOf f.type)) = some x) →
    ∃ xs, k + xs.length = z ∧ DRs (κ0 w) w.heap xs (cs.drop k) ∧ ∀ f ∈ fs, k ≤ f.offset ∧ Ty P f.type ((xs.drop (f.offset - k)).take (P.cellsOf f.type))
  | [], k, z, cs, h, hl, _, _ => by
    have := nbE h
    subst this
    refine ⟨[], by simp, ?_, by simp⟩
    rw [List.drop_of_length_le (by omega)]
    exact ⟨rfl, by simp, by simp⟩
  | f :: fs, k, z, cs, h, hl, hk, hg => by
    simp only [okFs, Bool.and_eq_true] at h
    have hoff := nbE h.1.1
    obtain ⟨x, hx⟩ := hg f (by simp)
    obtain ⟨ys, y1, y2, y3⟩ := ih f.type h.1.2 _ _ hx
    rw [hoff] at y2
    have hlen : k + P.cellsOf f.type ≤ z := by
      have := y2.1
      simp at this
      omega
    obtain ⟨xs, x1, x2, x3⟩ := trod_fields ih fs (k + P.cellsOf f.type) z cs h.2 hl hlen (fun q hq => hg q (by simp [hq]))
    refine ⟨ys ++ xs, by simp; omega, ?_, fun q hq => ?_⟩
    · have := y2.append x2
      rw [← List.drop_drop, List.take_append_drop] at this
      exact this
    · rcases List.mem_cons.1 hq with rfl | hq
      · refine ⟨by omega, ?_⟩
        rw [show q.offset - k = 0 by omega, List.drop_zero, List.take_left' y1]
        exact y3
      · obtain ⟨q1, q2⟩ := x3 q hq
        refine ⟨by omega, ?_⟩
        rw [show q.offset - k = ys.length + (q.offset - (k + P.cellsOf f.type)) by omega, List.drop_append]
        rw [List.drop_of_length_le (by omega), List.nil_append, show ys.length + (q.offset - (k + P.cellsOf f.type)) - ys.length = q.offset - (k + P.cellsOf f.type) by omega]
        exact q2

theorem trod_Ty : ∀ (n : Nat) (t : TypeId), okT P n t = true → ∀ (fuel : Nat) (cs : List Value) (x : DataW H × List MemPlace), DataW.trod enc P w 0 (fun _ => true) true fuel t cs = some x →
    ∃ xs, xs.length = P.cellsOf t ∧ DRs (κ0 w) w.heap xs cs ∧ Ty P t xs
  | 0, _, h => by simp [okT] at h
  | n + 1, t, h => by
    intro fuel cs x hx
    simp only [okT] at h
    split at h
    · rename_i ht
      obtain ⟨b, rfl, _⟩ := DataW.trod_bool ht hx
      exact ⟨[.bool b], (nbE h).symm, .one rfl (.bool b), .bool ht b⟩
    · rename_i k ht
      obtain ⟨i, rfl, _, hw⟩ := DataW.trod_int ht hx
      exact ⟨[.int k i], (nbE h).symm, .one rfl (.int k i), .int ht hw⟩
    · rename_i ht
      obtain ⟨s, rfl, _, hs⟩ := DataW.trod_string ht hx
      refine ⟨[.str s.data.toList], (nbE h).symm, .one rfl ?_, .str ht (by simpa using hs)⟩
      exact .str s.data.toList
    · rename_i e ht
      simp only [Bool.and_eq_true, Bool.or_eq_true] at h
      cases fuel with
      | zero => simp [DataW.trod] at hx
      | succ fuel =>
        obtain ⟨xs, h1, h2⟩ := trod_slice ht (Nat.le_of_ble_eq_true h.1.1.2) (h.1.2.imp id nbE) (fun cs x hx => trod_Ty n e h.2 fuel cs x hx) hx
        exact ⟨xs, by rw [h1, nbE h.1.1.1], h2⟩
    · rename_i fs ht
      obtain ⟨xs, m, rfl, _, hl, hsz, hi⟩ := DataW.trod_struct ht hx
      obtain ⟨ys, y1, y2, y3⟩ := trod_fields (g := fun t cs => DataW.trod enc P w 0 (fun _ => true) true m t cs) (ok := okT P n) (fun t ht cs x hx => trod_Ty n t ht m cs x hx) fs.toList 0 (P.cellsOf t) cs h hl (by omega) (fun f hf => by
        obtain ⟨i, hi'⟩ := List.mem_iff_getElem?.1 hf
        have q := hi i f (by simpa using hi')
        have hlt : i < fs.size := by have := (List.getElem?_eq_some_iff.1 hi').1; simpa using this
        have : xs[i]? = some xs[i] := by simp [show i < xs.length by omega]
        rw [this] at q
        exact ⟨_, q⟩)
      refine ⟨ys, by omega, by simpa using y2, .struct ht (by omega) (fun f hf => ?_)⟩
      have := (y3 f (by simpa using hf)).2
      simpa using this
    · cases h

/-- A value of a type as one datum. -/
theorem Trod_Ty {n : Nat} {t : TypeId} (hok : okT P n t = true) {v : Value} {d : DataW H} {ps : List MemPlace}
    (hv : isAggT P t = true → ∃ cs, v = .agg cs) (hv1 : isAggT P t = false → ∀ cs, v ≠ .agg cs) (h : DataW.Trod enc P w 0 (fun _ => true) true t v d ps) :
    ∃ xs, DR (κ0 w) w.heap (elOf (isAggT P t) xs) v ∧ Ty P t xs := by
  obtain ⟨fuel, h⟩ := h
  obtain ⟨xs, h1, h2, h3⟩ := trod_Ty n t hok fuel _ _ h
  refine ⟨xs, ?_, h3⟩
  cases ha : isAggT P t with
  | true =>
    obtain ⟨cs, rfl⟩ := hv ha
    show DR _ _ (.agg xs) _
    refine .agg ?_ h2.2.1 (fun i x v hx hv => h2.2.2 i x v hx (by simpa [Value.cells] using hv))
    have := h2.1; simp [Value.cells] at this; omega
  | false =>
    have hc : v.cells.toList = [v] := by
      have := hv1 ha
      cases v <;> first | rfl | exact absurd rfl (this _)
    rw [hc] at h2
    have hl : xs.length = 1 := h2.1
    match xs, hl with
    | [x], _ => exact h2.2.2 0 x v rfl rfl

theorem okWide_form {n : Nat} {t : TypeId} (hok : okT P n t = true) {W : World} {base : Nat} {v : Value} (h : Value.okWide P W .any base t v) :
    (isAggT P t = true → ∃ cs, v = .agg cs) ∧ (isAggT P t = false → ∀ cs, v ≠ .agg cs) := by
  cases n with
  | zero => simp [okT] at hok
  | succ n =>
    simp only [okT] at hok
    unfold Value.okWide at h
    split at hok <;> rename_i ht
    all_goals first | (cases hok; done) | skip
    all_goals (rw [ht] at h; simp only at h)
    all_goals first
      | (refine ⟨fun ha => by simp [isAggT, ht] at ha, fun _ cs e => ?_⟩; subst e; simp [Cell.okWide, Cell.ok, ht] at h; done)
      | (obtain ⟨cs, rfl, _⟩ := h; exact ⟨fun _ => ⟨cs, rfl⟩, fun ha => by simp [isAggT, ht] at ha⟩)

theorem keptBut_of {W W' : World} (hh : ∀ b, b < W.heap.size → W'.heap[b]? = W.heap[b]?) (h1 : W'.os = W.os) (h2 : W'.output = W.output) (may : MemPlace → Prop) : W.keptBut W' may := by
  refine ⟨h1, h2, fun i hi => ?_⟩
  rw [hh i hi]
  cases W.heap[i]? with
  | none => rfl
  | some o => cases o <;> first | exact ⟨rfl, rfl, rfl, fun _ _ => rfl⟩ | exact .inr ⟨rfl, rfl⟩ | rfl

/-- The arguments of a law, each as the data of its type. -/
def Tys (P : Program) : List TypeId → List (List DV) → Prop
  | [], [] => True
  | t :: ts, x :: xs => Ty P t x ∧ Tys P ts xs
  | _, _ => False
def argsOf (P : Program) : List TypeId → List (List DV) → List DV
  | t :: ts, x :: xs => elOf (isAggT P t) x :: argsOf P ts xs
  | _, _ => []

theorem trodAll_Tys {W : World} {n base : Nat} : ∀ {ts : List TypeId} {vs : List Value} {ds : List (DataW H)} {ps : List MemPlace}, (∀ t ∈ ts, okT P n t = true) →
    (∀ (j : Nat) t v, ts[j]? = some t → vs[j]? = some v → Value.okWide P W .any base t v) → DataW.TrodAll enc P W 0 (fun _ => true) true ts vs ds ps →
    ∃ xss, Tys P ts xss ∧ ds.length = ts.length ∧ vs.length = (argsOf P ts xss).length ∧ ∀ (i : Nat) (x : DV) (v : Value), (argsOf P ts xss)[i]? = some x → vs[i]? = some v → DR (κ0 W) W.heap x v
  | [], [], [], _, _, _, _ => ⟨[], trivial, rfl, rfl, by simp [argsOf]⟩
  | t :: ts, v :: vs, d :: ds, ps, hok, hval, h => by
    obtain ⟨p, q, h1, h2, rfl⟩ := h
    obtain ⟨f1, f2⟩ := okWide_form (hok t (by simp)) (hval 0 t v rfl rfl)
    obtain ⟨xs, x1, x2⟩ := Trod_Ty (hok t (by simp)) f1 f2 h1
    obtain ⟨xss, y1, y2, y3, y4⟩ := trodAll_Tys (fun t ht => hok t (by simp [ht])) (fun j t v ht hv => hval (j + 1) t v (by simpa using ht) (by simpa using hv)) h2
    refine ⟨xs :: xss, ⟨x2, y1⟩, by simp [y2], by simp [argsOf, y3], fun i x u hx hu => ?_⟩
    cases i with
    | zero => simp [argsOf] at hx hu; subst hx; subst hu; exact x1
    | succ i => exact y4 i x u (by simpa [argsOf] using hx) (by simpa using hu)

end


end Go.Am

/-
  A law without arguments whose row lists package-level variables: from the contract to the row's step.
-/
namespace Go.Am
set_option linter.unusedSectionVars false
open Go.ChangeShapes Go.WideShapes Go.ChangeAt Go.WideMaps Go.WideElems Go.RowKit
variable {P : Program} [Gl] {H : Type} {enc : TypeId × Value → H}

theorem law_post0 {f : FuncId} {fn : Func} {s : ChangeSpec} {apart fresh handsOn : Bool} {tb : TypeId} (hvars : s.vars = []) (hpar : fn.params.toList = [])
    (hres : fn.resultTypes = #[tb]) (htb : P.underlying tb = some .bool) (hs : s.fn H [] = { results := [.lit (.bool true)], args := [] })
    (hC : C P f [] [] (fun r o => r = .d (.bool true) ∧ o = []))
    (W : World) (args : Array Value) (ds gs : List (DataW H)) (before : List MemPlace) (hgl : ∀ p ∈ Gl.gl, ∃ ty fz, W.heap[p.1]? = some (.cells p.2 ty fz))
    (hW : DataW.Whole enc P fn.params.toList s.vars apart W args.toList ds gs before) :
    Calls P f args W fun e W' => ∃ v, e = .returned v ∧ s.post enc P fn apart fresh handsOn false W args v W' := by
  have hW' := hW
  obtain ⟨p, q, hA, hV, hb, hfz, hnd⟩ := hW
  rw [hvars] at hV
  obtain ⟨rfl, rfl⟩ := trodVars_none hV
  rw [hpar] at hA
  obtain ⟨xss, y1, y2, y3, y4⟩ := trodAll_Tys (n := 0) (base := 0) (by simp) (by simp) hA
  have hxs : xss = [] := by
    cases xss with
    | nil => rfl
    | cons x l => exact y1.elim
  subst hxs
  have hds : ds = [] := List.eq_nil_of_length_eq_zero (by simpa using y2)
  subst hds
  have ha : args = #[] := by
    apply Array.eq_empty_of_size_eq_zero
    simpa [argsOf] using y3
  subst ha
  refine (hC (fun _ => .oth) (fun _ => .un) W #[] (fun i => by rw [tabNil]; rfl) ⟨fun b hb => absurd rfl hb, fun p hp => ⟨rfl, hgl p hp⟩⟩ rfl (fun i x v hx hv => by simp at hx)).mono ?_
  rintro e W' ⟨v, r, o, κ', φ', rfl, ⟨rfl, rfl⟩, hr, _, _, _, F, _⟩
  have hh : ∀ b, b < W.heap.size → W'.heap[b]? = W.heap[b]? := fun b hb => (F.oth b hb rfl).2
  have hv : v = .bool true := by cases hr with | d h => cases h; rfl
  subst hv
  have hds : s.fn H ([] ++ []) = { results := [.lit (.bool true)], args := [] } := hs
  refine ⟨_, rfl, [], [], before, [], [], [], hW', ?_, ?_, ?_, keptBut_of hh F.os F.out _, fun h => by cases h⟩
  · rw [hds, hres]
    exact trodAll_cons_mk (shut_bool htb _) trodAll_mk0
  · rw [hds, hpar]
    exact trodAll_mk0
  · rw [hds, hvars]; rfl

/-- The rest of a list of laid variables. -/
theorem laidVars_tail {W : World} {x : String × DataW Unit} {l : List (String × DataW Unit)} {ps : List MemPlace} (h : DataW.LaidVars P W (x :: l) ps) : ∃ q, DataW.LaidVars P W l q := by
  obtain ⟨_, _, _, _, _, q, _, _, _, _, h, _⟩ := h
  exact ⟨q, h⟩
theorem laidVars_drop {W : World} : ∀ (n : Nat) {l : List (String × DataW Unit)} {ps : List MemPlace}, DataW.LaidVars P W l ps → ∃ q, DataW.LaidVars P W (l.drop n) q
  | 0, _, ps, h => ⟨ps, h⟩
  | _ + 1, [], ps, h => ⟨ps, h⟩
  | n + 1, _ :: _, _, h => by
    obtain ⟨q, h⟩ := laidVars_tail h
    exact laidVars_drop n h

theorem laidVars_tab {W : World} {name : String} {k : IntKind} {zs : List Int} {rest : List (String × DataW Unit)} {g : Nat} {t e : TypeId} {n : Nat} {ps : List MemPlace}
    (hg : P.globalNamed name = some g) (hty : (P.globals[g]?).map (·.type) = some t) (ht : P.underlying t = some (.array n e)) (he : P.underlying e = some (.int k)) (hce : P.cellsOf e = 1) (hct : P.cellsOf t = n)
    (h : DataW.LaidVars P W ((name, Lib.tabData k zs) :: rest) ps) : ∃ ty fz, W.heap[g]? = some (.cells (zs.map fun z => Value.int k z).toArray ty fz) := by
  obtain ⟨g', t', cs, fuel, p, q, hg', ht', hvar, hd, _, _⟩ := h
  obtain rfl := Option.some.inj (hg.symm.trans hg')
  obtain rfl := Option.some.inj (hty.symm.trans ht')
  have hcs := Lib.cells_of_tab ht he hce hct hd
  unfold World.var? at hvar
  rw [hg] at hvar
  simp only [Option.bind_some] at hvar
  split at hvar
  · rename_i c ty fz hh
    injection hvar with hvar
    subst hvar
    exact ⟨ty, fz, by rw [hh, ← hcs]⟩
  · cases hvar

/-- No number twice, by a mask of bits. -/
def nodupM : List Nat → Nat → Bool
  | [], _ => true
  | k :: r, m => bif Nat.beq (Nat.mod (Nat.shiftRight m k) 2) 1 then false else nodupM r (Nat.lor m (Nat.shiftLeft 1 k))

theorem bit_iff (m k : Nat) : Nat.beq (Nat.mod (Nat.shiftRight m k) 2) 1 = m.testBit k := by
  have : m.testBit k = decide ((m >>> k) % 2 = 1) := by
    simp only [Nat.testBit, Nat.shiftRight_eq_div_pow, Nat.and_comm 1, Nat.and_one_is_mod]
    rcases Nat.mod_two_eq_zero_or_one (m / 2 ^ k) with h | h <;> rw [h] <;> rfl
  rw [this]
  show Nat.beq ((m >>> k) % 2) 1 = _
  by_cases h : (m >>> k) % 2 = 1
  · rw [h]; rfl
  · rw [nbF h]; simp [h]

theorem bit1 (j : Nat) (h : j ≠ 0) : Nat.testBit 1 j = false := by
  have h2 : 2 ≤ 2 ^ j := Nat.pow_le_pow_right (n := 2) (i := 1) (by omega) (by omega)
  have h3 : 1 / 2 ^ j = 0 := Nat.div_eq_of_lt (by omega)
  simp [Nat.testBit, Nat.shiftRight_eq_div_pow, h3]

theorem nodupM_spec : ∀ (l : List Nat) (m : Nat), nodupM l m = true → l.Nodup ∧ ∀ k ∈ l, m.testBit k = false
  | [], m, _ => ⟨List.nodup_nil, by simp⟩
  | k :: r, m, h => by
    simp only [nodupM, bit_iff] at h
    cases hb : m.testBit k with
    | true => rw [hb] at h; cases h
    | false =>
      rw [hb] at h
      simp only [cond_false] at h
      obtain ⟨h1, h2⟩ := nodupM_spec r _ h
      have hbit : ∀ j, (Nat.lor m (Nat.shiftLeft 1 k)).testBit j = (m.testBit j || decide (k = j)) := fun j => by
        show (m ||| 1 <<< k).testBit j = _
        rw [Nat.testBit_or, Nat.testBit_shiftLeft]
        congr 1
        by_cases hkj : k ≤ j
        · by_cases e : k = j
          · subst e; simp
          · have : j - k ≠ 0 := by omega
            have h1 : Nat.testBit 1 (j - k) = false := by
              exact bit1 _ this
            rw [h1]; simp [e]
        · have : k ≠ j := by omega
          simp [this, hkj]
      refine ⟨List.nodup_cons.2 ⟨fun hk => ?_, h1⟩, fun j hj => ?_⟩
      · have := h2 k hk
        rw [hbit] at this
        simp at this
      · rcases List.mem_cons.1 hj with rfl | hj
        · exact hb
        · have := h2 j hj
          rw [hbit] at this
          simp only [Bool.or_eq_false_iff] at this
          exact this.1

def keyM : MemPlace → Nat
  | .cell b off => b * 1024 + off
  | .map b => b * 1024

theorem laid_of_run {P : Program} {w : World} {l : List (String × DataW Unit)} (fuel : Nat) (h1 : (DataW.laidRun P w fuel (l.map (·.1))).map (·.1) = some l)
    (h2 : (DataW.laidRun P w fuel (l.map (·.1))).map (fun x => nodupM (x.2.map keyM) 0) = some true) (h3 : (DataW.laidRun P w fuel (l.map (·.1))).map (fun x => laidRowsB P w x.2) = some true) : laidMet P l w := by
  refine laidMet_of_run' fuel h1 ?_
  cases hx : DataW.laidRun P w fuel (l.map (·.1)) with
  | none => rw [hx] at h1; cases h1
  | some x =>
    rw [hx] at h2 h3
    simp only [Option.map_some, Option.some.injEq] at h2 h3 ⊢
    have hn : x.2.Nodup := List.Pairwise.of_map keyM (fun a b h e => h (by rw [e])) (nodupM_spec _ _ h2).1
    rw [h3, decide_eq_true hn]
    rfl
end Go.Am

/-
  What a function can come to, reckoned with a mask of bits: the same list, with little work.
-/
namespace Go.Am
set_option linter.unusedSectionVars false
variable {P : Program} [Gl]

noncomputable def forceM (n : Nat) (k : Nat → List Nat) : List Nat := Nat.rec (motive := fun _ => List Nat) (k 0) (fun m _ => k (Nat.succ m)) n
theorem forceM_eq (n : Nat) (k : Nat → List Nat) : forceM n k = k n := by cases n <;> rfl

noncomputable def closeM (P : Program) (n : Nat) : List Nat → List Nat → Nat → List Nat :=
  Nat.rec (motive := fun _ => List Nat → List Nat → Nat → List Nat) (fun _ seen _ => seen.reverse)
    (fun _ ih todo seen m => List.rec (motive := fun _ => List Nat) seen.reverse (fun f todo _ => Bool.rec (motive := fun _ => List Nat)
      (forceM (Nat.lor m (Nat.shiftLeft 1 f)) (ih ((P.funcs[f]?).elim [] P.leadsTo ++ todo) (f :: seen))) (ih todo seen m) (hasM m f)) todo) n

theorem hasM_bit (m k : Nat) : hasM m k = m.testBit k := bit_iff m k

theorem lor_bit (m k j : Nat) : (Nat.lor m (Nat.shiftLeft 1 k)).testBit j = (m.testBit j || decide (k = j)) := by
  show (m ||| 1 <<< k).testBit j = _
  rw [Nat.testBit_or, Nat.testBit_shiftLeft]
  congr 1
  by_cases hkj : k ≤ j
  · by_cases e : k = j
    · subst e; simp
    · have : j - k ≠ 0 := by omega
      rw [bit1 _ this]; simp [e]
  · have : k ≠ j := by omega
    simp [this, hkj]

theorem closeM_eq : ∀ (n : Nat) (todo seen : List Nat) (m : Nat), (∀ k, m.testBit k = seen.contains k) → closeM P n todo seen m = P.closureVia n todo seen
  | 0, todo, seen, m, _ => by
    show seen.reverse = _
    simp [Program.closureVia]
  | n + 1, [], seen, m, _ => by
    show seen.reverse = _
    simp [Program.closureVia]
  | n + 1, f :: todo, seen, m, h => by
    have e : closeM P (n + 1) (f :: todo) seen m = Bool.rec (motive := fun _ => List Nat)
      (forceM (Nat.lor m (Nat.shiftLeft 1 f)) (closeM P n ((P.funcs[f]?).elim [] P.leadsTo ++ todo) (f :: seen))) (closeM P n todo seen m) (hasM m f) := rfl
    rw [e, hasM_bit, h f]
    simp only [Program.closureVia]
    cases hc : seen.contains f with
    | true => exact closeM_eq n todo seen m h
    | false =>
      simp only [Bool.false_eq_true, if_false, forceM_eq]
      refine closeM_eq n _ _ _ (fun k => ?_)
      rw [lor_bit, h k]
      simp only [List.contains_cons]
      by_cases e : k = f
      · subst e; simp
      · have : ¬ f = k := fun h => e h.symm
        simp [this, e]

theorem closure_is {f n : Nat} {L : List Nat} (hn : 1 + (P.funcs.toList.map fun g => (P.leadsTo g).length + 1).sum = n) (h : closeM P n [f] [] 0 = L) : P.closure f = L := by
  unfold Program.closure
  rw [hn, ← h]
  exact (closeM_eq n [f] [] 0 (fun k => by simp)).symm
end Go.Am
