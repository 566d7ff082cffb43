/-
  Changes as data; what walks over them use.
-/
import Derived.Test.YtljfolepmkcjlaaCTb
import Derived.Test.YtljfolepmkcjlaaCK0
import Derived.Test.YtljfolepmkcjlaaCh0
import Derived.IntWalk
namespace Go.Proofs.Ytljfolepmkcjlaa
open Go.RowKit Plain Am IntWalk
set_option maxRecDepth 100000

noncomputable def cfT (l : List (Nat × Ent)) : Cfg := { E := Env.of Try.prog, K := konOf l, byref := fun _ => false, callOk := cok }
theorem cfT_ok {l : List (Nat × Ent)} (h : EntsOk Try.prog l) : Ok Try.prog (cfT l) := ⟨⟨rfl, konOf_ok h, fun _ h => h⟩, mixed⟩
theorem wrap_succ {i : Nat} (h : i ≤ 1000000) : IntKind.i64.wrap ((i : Int) + 1) = ((i + 1 : Nat) : Int) := by rw [i64_in _ (by omega)]; omega
abbrev Ends (rs : List ResultVar) (v : RV) : SSt → Prop := fun s => ∃ r objs' c, finish (Env.of Try.prog) true 0 rs s.R s.O = some (r, objs', c) ∧ (∀ b ∈ c, b = true) ∧ r = v ∧ objs' = []

abbrev rD (l : List Val) : DV := .lst 3 (l.map vD) false
def chD (c : Chg) : DV := .agg [.str c.t, rD c.k, rD c.o, rD c.n]
def toChg : DV → Chg
  | .agg [.str t, .lst _ k _, .lst _ o _, .lst _ n _] => ⟨t, toRow k, toRow o, toRow n⟩
  | _ => ⟨[], [], [], []⟩
def isR : DV → Bool
  | .lst sz els full => okRow els && decide (sz = 3) && !full
  | _ => false
def isC : DV → Bool
  | .agg [.str _, a, b, c] => isR a && isR b && isR c
  | _ => false
def Chg.ok (c : Chg) : Prop := c.wf ∧ c.k.length ≤ 65536 ∧ c.o.length ≤ 65536 ∧ c.n.length ≤ 65536
theorem isR_rD {l : List Val} (hl : l.length ≤ 65536) (hw : ∀ v ∈ l, v.wf) : isR (rD l) = true := by simp [isR, okRow_map hl hw]
theorem isC_chD {c : Chg} (h : Chg.ok c) : isC (chD c) = true := by
  obtain ⟨⟨w1, w2, w3⟩, l1, l2, l3⟩ := h
  simp only [chD, isC, isR_rD l1 w1, isR_rD l2 w2, isR_rD l3 w3]; rfl
theorem toChg_chD (c : Chg) : toChg (chD c) = c := by simp [chD, toChg, rD, toRow_map]
theorem isR_spec {x : DV} (h : isR x = true) : ∃ l, x = rD l ∧ (∀ v ∈ l, v.wf) ∧ l.length ≤ 65536 := by
  unfold isR at h
  split at h
  · rename_i sz els full
    simp only [Bool.and_eq_true, decide_eq_true_eq, Bool.not_eq_true'] at h
    obtain ⟨⟨h1, rfl⟩, rfl⟩ := h
    obtain ⟨g1, g2, g3⟩ := okRow_spec h1
    exact ⟨toRow els, by rw [rD, ← g1], g2, g3⟩
  · cases h
theorem isC_spec {x : DV} (h : isC x = true) : ∃ c, x = chD c ∧ Chg.ok c := by
  unfold isC at h
  split at h
  · rename_i t a b c
    simp only [Bool.and_eq_true] at h
    obtain ⟨⟨h1, h2⟩, h3⟩ := h
    obtain ⟨k, rfl, w1, l1⟩ := isR_spec h1
    obtain ⟨o, rfl, w2, l2⟩ := isR_spec h2
    obtain ⟨n, rfl, w3, l3⟩ := isR_spec h3
    exact ⟨⟨t, k, o, n⟩, rfl, ⟨w1, w2, w3⟩, l1, l2, l3⟩
  · cases h
theorem getD_val (l : List Val) (i : Nat) (h : i < l.length) : (l.map vD).getD i .nilp = vD l[i] := by simp [h]
theorem getD_chg (l : List Chg) (i : Nat) (h : i < l.length) : (l.map chD).getD i .nilp = chD l[i] := by simp [h]
end Go.Proofs.Ytljfolepmkcjlaa
