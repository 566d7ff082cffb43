/-
  Letters as the reference keeps them: the states.
-/
import Derived.Test.YtchmeldlpoimnaaAmV5
namespace Go.Am
open Go.RowKit

/-- A box whose cell is a nil slice: the same with an array of one's own, that is empty. -/
theorem FRel.nilBox {κ : Kap} {φ : Phi} {w : World} {s : SSt} {a : Act} (F : FRel κ φ w s a) {i j sl T ty sz sz' : Nat} {cs : List RV} (hO : s.O i = some (.box T cs)) (hj : cs[j]? = some (.d (.lst sz' [] true))) (hs : s.O sl = none) :
    FRel κ (setP φ sl .nil) w { s with O := setT (setT s.O sl (some (.arr ty sz []))) i (some (.box T (cs.set j (.own sl sz)))) } a ∧ Kp φ s.O (setP φ sl .nil) (setT (setT s.O sl (some (.arr ty sz []))) i (some (.box T (cs.set j (.own sl sz))))) := by
  have hne : i ≠ sl := fun e => by subst e; rw [hO] at hs; cases hs
  have hun : φ sl = .un := by have := F.objs sl; rw [hs] at this; exact this
  obtain ⟨q1, q2, _⟩ := F.upd1 (i := sl) (p := .arr ty sz []) (κ' := κ) (φ' := setP φ sl .nil) (w' := w) (Nat.le_refl _) (fun _ h => h) (fun _ _ _ _ h => h) (fun _ _ h => h) (fun _ _ _ _ => rfl)
    (fun j hj => setP_ne _ _ hj) (fun h => absurd hun h) (fun _ c _ fz hc => ⟨c, fz, hc, rfl⟩) (fun h => absurd hun h) F.bnd (fun M => .inl ⟨setP_same _ _ _, rfl⟩)
  have hO1 : (setT s.O sl (some (.arr ty sz []))) i = some (.box T cs) := by rw [setT_ne _ _ hne]; exact hO
  have hM : Mono κ (setP φ sl .nil) (setT s.O sl (some (.arr ty sz []))) w.heap κ (setP φ sl .nil) (setT (setT s.O sl (some (.arr ty sz []))) i (some (.box T (cs.set j (.own sl sz))))) w.heap :=
    ⟨fun _ hb => ⟨hb, rfl⟩, fun _ c _ fz hc => ⟨c, fz, hc, rfl⟩, fun _ _ => rfl, fun k n _ hn => by
      by_cases e : k = i
      · subst e; rw [setT_same] at hn; simp [PObj.len?] at hn
      · rw [setT_ne _ _ e] at hn; exact hn⟩
  refine ⟨⟨fun x => (q1.regs x).mono hM, fun k => ?_, q1.bnd, q1.n, q1.df⟩, q2.kp.trans hM.kp⟩
  dsimp only
  by_cases e : k = i
  · subst e
    rw [setT_same]
    have ho := q1.objs k
    simp only at ho
    rw [hO1] at ho
    obtain ⟨b, c, h1, h2, h3, h4, h5, h6⟩ := ho
    refine ⟨b, c, h1, h2, h3, by simpa using h4, h5, fun n x v hx hv => ?_⟩
    rw [List.getElem?_set] at hx
    by_cases e : j = n
    · subst e
      have hr := h6 j _ v hj hv
      have hx' : x = .own sl sz := by
        split at hx
        · split at hx
          · simpa using hx.symm
          · simp at hx
        · exact absurd rfl (by assumption)
      subst hx'
      cases hr with
      | d hr =>
        cases hr with
        | lst0 hf => have := (hf rfl).1; subst this; exact .ownNil (setP_same _ _ _)
        | lst _ _ hf hc _ _ _ => have := (hf rfl).1; simp only [List.length_nil] at this; subst this; exact .ownNil (setP_same _ _ _)
    · rw [if_neg e] at hx
      exact (h6 n x v hx hv).mono hM
  · rw [setT_ne _ _ e]
    exact (q1.objs k).mono hM (fun b hb => ⟨hb, rfl⟩) rfl
theorem WK.nilBox {P : Program} {m : Nat} {k : List It} {s s' : SSt} {Q : SSt → Prop} {i j sl T ty sz sz' : Nat} {cs : List RV} (hO : s.O i = some (.box T cs)) (hj : cs[j]? = some (.d (.lst sz' [] true))) (hs : s.O sl = none)
    (he : s' = { s with O := setT (setT s.O sl (some (.arr ty sz []))) i (some (.box T (cs.set j (.own sl sz)))) }) (hk : WK P m k s' Q) : WK P m k s Q := by
  subst he
  intro κ φ w a F b fs
  obtain ⟨F', K⟩ := F.nilBox (ty := ty) (sz := sz) hO hj hs
  obtain ⟨e, a', w', κ', φ', s', h1, h2, h3, h4, h5, h6⟩ := hk κ _ w a F' b fs
  exact ⟨e, a', w', κ', φ', s', h1, h2, h3, h4, (K.m m).trans h5, h6⟩
theorem WK.freeze {P : Program} {m : Nat} {k : List It} {s s' : SSt} {Q : SSt → Prop} {i ty sz : Nat} {els : List DV} (hi : s.O i = some (.arr ty sz els)) (he : s' = { s with O := setT s.O i (some (.frz sz els)) }) (hk : WK P m k s' Q) : WK P m k s Q := by
  subst he
  intro κ φ w a F b fs
  obtain ⟨κ', F', M, R⟩ := F.freeze hi
  obtain ⟨e, a', w', κ2, φ2, s2, h1, h2, h3, h4, h5, h6⟩ := hk κ' φ w a F' b fs
  exact ⟨e, a', w', κ2, φ2, s2, h1, h2, h3, R.trans h4, (M.kp.m m).trans h5, h6⟩
end Go.Am
namespace Go.Proofs.Ytchmeldlpoimnaa
open Go.RowKit Am IntWalk
set_option maxRecDepth 100000
set_option linter.unusedVariables false

def refA (L : List Ltr) (last : Int) : List PObj := [.box 72 [.own 1 5, .d (.int .i64 last)], .arr 61 5 (L.map lD)]
def refO (L : List Ltr) (last : Int) : List PObj := [.box 72 [.own 1 5, .d (.int .i64 last)], .frz 5 (L.map lD)]
noncomputable abbrev atC : Code := bodyOf Try.f84
def atS (L : List Ltr) (last id : Int) (i : Nat) : ESt := { n := 26, m := 2, regs := T.mk [(0, .ptr 0 0), (1, .d (.int .i64 id)), (5, .d (.int .i64 (i : Int)))], objs := T.mk [(0, .box 72 [.own 1 5, .d (.int .i64 last)]), (1, .frz 5 (L.map lD))] }
noncomputable abbrev eqC : Code := bodyOf Try.f48
def eqS (L : List Ltr) (i : Nat) : ESt := { n := 26, m := 0, regs := T.mk [(0, .d (.lst 5 (L.map lD) false)), (1, .d (.lst 5 (L.map lD) false)), (12, .d (.int .i64 ((L.map lD).length : Int))), (13, .d (.int .i64 (i : Int)))], objs := T.nil }
end Go.Proofs.Ytchmeldlpoimnaa
