/-
  A box whose cell is a nil slice, as one with an empty array of one's own.
-/
import Derived.Test.YtljfolepmkcjlaaAmC
namespace Go.Am
open Go.RowKit

/-- A box whose cell is a nil slice: the same with an array of one's own, that is empty. -/
theorem FRel.nilBox {κ : Kap} {φ : Phi} {w : World} {s : SSt} {a : Act} (F : FRel κ φ w s a) {i j sl T ty sz sz' : Nat} {cs : List RV} (hO : s.O i = some (.box T cs)) (hj : cs[j]? = some (.d (.lst sz' [] true))) (hs : s.O sl = none) :
    FRel κ (setP φ sl .nil) w { s with O := setT (setT s.O sl (some (.arr ty sz []))) i (some (.box T (cs.set j (.own sl sz)))) } a ∧ Kp φ s.O (setP φ sl .nil) (setT (setT s.O sl (some (.arr ty sz []))) i (some (.box T (cs.set j (.own sl sz))))) := by
  have hne : i ≠ sl := fun e => by subst e; rw [hO] at hs; cases hs
  have hun : φ sl = .un := by have := F.objs sl; rw [hs] at this; exact this
  obtain ⟨q1, q2, _⟩ := F.upd1 (i := sl) (p := .arr ty sz []) (κ' := κ) (φ' := setP φ sl .nil) (w' := w) (Nat.le_refl _) (fun _ h => h) (fun _ _ _ _ h => h) (fun _ _ h => h) (fun _ _ _ _ => rfl)
    (fun j hj => setP_ne _ _ hj) (fun h => absurd hun h) (fun _ c _ fz hc => ⟨c, fz, hc, rfl⟩) (fun h => absurd hun h) F.bnd (fun M => .inl ⟨setP_same _ _ _, rfl⟩)
  have hO1 : (setT s.O sl (some (.arr ty sz []))) i = some (.box T cs) := by rw [setT_ne _ _ hne]; exact hO
  have hM : Mono κ (setP φ sl .nil) (setT s.O sl (some (.arr ty sz []))) w.heap κ (setP φ sl .nil) (setT (setT s.O sl (some (.arr ty sz []))) i (some (.box T (cs.set j (.own sl sz))))) w.heap :=
    ⟨fun _ hb => ⟨hb, rfl⟩, fun _ c _ fz hc => ⟨c, fz, hc, rfl⟩, fun _ _ => rfl, fun k n _ hn => by
      by_cases e : k = i
      · subst e; rw [setT_same] at hn; simp [PObj.len?] at hn
      · rw [setT_ne _ _ e] at hn; exact hn⟩
  refine ⟨⟨fun x => (q1.regs x).mono hM, fun k => ?_, q1.bnd, q1.n, q1.df⟩, q2.kp.trans hM.kp⟩
  dsimp only
  by_cases e : k = i
  · subst e
    rw [setT_same]
    have ho := q1.objs k
    simp only at ho
    rw [hO1] at ho
    obtain ⟨b, c, h1, h2, h3, h4, h5, h6⟩ := ho
    refine ⟨b, c, h1, h2, h3, by simpa using h4, h5, fun n x v hx hv => ?_⟩
    rw [List.getElem?_set] at hx
    by_cases e : j = n
    · subst e
      have hr := h6 j _ v hj hv
      have hx' : x = .own sl sz := by
        split at hx
        · split at hx
          · simpa using hx.symm
          · simp at hx
        · exact absurd rfl (by assumption)
      subst hx'
      cases hr with
      | d hr =>
        cases hr with
        | lst0 hf => have := (hf rfl).1; subst this; exact .ownNil (setP_same _ _ _)
        | lst _ _ hf hc _ _ _ => have := (hf rfl).1; simp only [List.length_nil] at this; subst this; exact .ownNil (setP_same _ _ _)
    · rw [if_neg e] at hx
      exact (h6 n x v hx hv).mono hM
  · rw [setT_ne _ _ e]
    exact (q1.objs k).mono hM (fun b hb => ⟨hb, rfl⟩) rfl
theorem WK.nilBox {P : Program} {m : Nat} {k : List It} {s s' : SSt} {Q : SSt → Prop} {i j sl T ty sz sz' : Nat} {cs : List RV} (hO : s.O i = some (.box T cs)) (hj : cs[j]? = some (.d (.lst sz' [] true))) (hs : s.O sl = none)
    (he : s' = { s with O := setT (setT s.O sl (some (.arr ty sz []))) i (some (.box T (cs.set j (.own sl sz)))) }) (hk : WK P m k s' Q) : WK P m k s Q := by
  subst he
  intro κ φ w a F b fs
  obtain ⟨F', K⟩ := F.nilBox (ty := ty) (sz := sz) hO hj hs
  obtain ⟨e, a', w', κ', φ', s', h1, h2, h3, h4, h5, h6⟩ := hk κ _ w a F' b fs
  exact ⟨e, a', w', κ', φ', s', h1, h2, h3, h4, (K.m m).trans h5, h6⟩
end Go.Am
