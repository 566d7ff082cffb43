/-
  Letters as the reference keeps them: at, add; slices.Equal.
-/
import Derived.Test.YtchmeldlpoimnaaAmV6
namespace Go.Proofs.Ytchmeldlpoimnaa
open Go.RowKit Am IntWalk
set_option maxRecDepth 100000
set_option linter.unusedVariables false
set_option linter.unusedSimpArgs false

def atN (id : Int) (L : List Ltr) : Int := match pos id L with
  | some i => (i : Int)
  | none => -1
theorem pos_hit : ∀ {L : List Ltr} {id : Int} {i : Nat} {x : Ltr}, L[i]? = some x → x.id = id → (∀ j, j < i → (L.getD j zL).id ≠ id) → pos id L = some i
  | l :: r, id, 0, x, h, hx, _ => by simp at h; subst h; simp [pos, hx]
  | l :: r, id, i + 1, x, h, hx, hn => by
    have h0 := hn 0 (by omega)
    simp at h0
    have : pos id r = some i := pos_hit (by simpa using h) hx (fun j hj => by have := hn (j + 1) (by omega); simpa using this)
    simp only [pos, this]
    rw [if_neg (by simp; exact fun e => h0 e.symm)]; rfl
theorem pos_miss : ∀ {L : List Ltr} {id : Int}, (∀ j, j < L.length → (L.getD j zL).id ≠ id) → pos id L = none
  | [], _, _ => rfl
  | l :: r, id, hn => by
    have h0 := hn 0 (by simp)
    simp at h0
    have : pos id r = none := pos_miss (fun j hj => by have := hn (j + 1) (by simpa using hj); simpa using this)
    simp only [pos, this]
    rw [if_neg (by simp; exact fun e => h0 e.symm)]; rfl
abbrev EndsR (n : Nat) (rs : List ResultVar) (v : RV) (o : List PObj) : SSt → Prop := fun s => ∃ r objs' c, finish (Env.of Try.prog) true n rs s.R s.O = some (r, objs', c) ∧ (∀ b ∈ c, b = true) ∧ r = v ∧ objs' = o
theorem lget {L : List Ltr} {i : Nat} (h : i < L.length) : (L.map lD).getD i .nilp = lD (L.getD i zL) := by simp [h]
theorem at_loop (L : List Ltr) (last id : Int) (hl : L.length ≤ 64) : WK Try.prog 2 (stackAt atC 0) (atS L last id 0).den (EndsR 2 (Try.f84.results.toList) (.d (.int .i64 (atN id L))) (refO L last)) := by
  have ok := cfT_ok (l := []) .nil
  refine WK.rec' (fun i => atS L last id i) (fun i => i ≤ L.length ∧ ∀ j, j < i → (L.getD j zL).id ≠ id) (fun i => L.length - i) ?_ 0 ⟨Nat.zero_le _, fun j h => by omega⟩
  rintro i ⟨hi, hn⟩ ih
  obtain ⟨n, hnn⟩ : ∃ n, (L.getD i zL).id = n := ⟨_, rfl⟩
  have hml : (L.map lD).length = L.length := List.length_map ..
  have hlt : decide ((Nat.cast (R := Int) i) < (Nat.cast (R := Int) (List.map lD L).length)) = true → i < L.length := fun h => by have := of_decide_eq_true h; omega
  rcases Bool.eq_false_or_eq_true (decide ((Nat.cast (R := Int) i) < (Nat.cast (R := Int) (List.map lD L).length)) : Bool) with h12 | h12
  · skip
    rcases Bool.eq_false_or_eq_true (n == id : Bool) with h24 | h24
    · skip
      exact WK.fin ok 1000 0 [(22, RV.d (DV.int Go.IntKind.i64 n)), (14, RV.d (DV.int Go.IntKind.i64 (Nat.cast (R := Int) (i + 1)))), (12, RV.d (DV.bool true)), (24, RV.d (DV.bool true))] [decide (0 ≤ (Nat.cast (R := Int) i) ∧ (Nat.cast (R := Int) i) < (Nat.cast (R := Int) (List.map lD L).length)), decide ((Nat.cast (R := Int) i).toNat < (List.map lD L).length), Nat.ble 1 ((List.map lD L).getD (Nat.cast (R := Int) i).toNat DV.nilp).cells.length] [(RV.d (DV.bool (decide ((Nat.cast (R := Int) i) < (Nat.cast (R := Int) (List.map lD L).length)))), RV.d (DV.bool true)), (RV.d (((List.map lD L).getD (Nat.cast (R := Int) i).toNat DV.nilp).cells.getD 0 DV.nilp), RV.d (DV.int Go.IntKind.i64 n)), (RV.d (DV.bool (n == id)), RV.d (DV.bool true))] rfl (by kernel_rfl : runEnd (cfT []) true _ 1000 0 _ _ (atS L last id i) = some (RV.d (DV.int Go.IntKind.i64 (Nat.cast (R := Int) i)), [PObj.box 72 [RV.own 1 5, RV.d (DV.int Go.IntKind.i64 last)], PObj.frz 5 (List.map lD L)], _, _)) (by refine ⟨?_, ?_, ?_, trivial⟩ <;> (first | (refine decide_eq_true ?_; have := hlt h12; omega) | (rw [Int.toNat_natCast, lget (hlt h12)]; rfl))) ⟨le_bool h12, (by first | (refine .of_eq ?_; rw [wrap_succ (by have := hlt h12; omega)]; done) | (refine .of_eq ?_; rw [Int.toNat_natCast, lget (hlt h12), ← hnn]; rfl)), le_bool h24, trivial⟩ (by first | (have h1 := hlt h12; have h2 := eq_of_beq h24; exact ⟨by unfold atN; rw [pos_hit (i := i) (x := L.getD i zL) (by simp [h1]) (hnn.trans h2) hn], rfl⟩) | (have h1 : i = L.length := (by have := of_decide_eq_false h12; omega); exact ⟨by unfold atN; rw [pos_miss (fun j hj => hn j (by omega))], rfl⟩))
    · skip
      have hrun : runSegA (cfT []) 1000 0 [(22, RV.d (DV.int Go.IntKind.i64 n)), (14, RV.d (DV.int Go.IntKind.i64 (Nat.cast (R := Int) (i + 1)))), (12, RV.d (DV.bool true)), (24, RV.d (DV.bool false))] [] [0, 1, 5] (stackAt atC 0) (atS L last id i) = some (stackAt atC 0, atS L last id (i + 1), [decide (0 ≤ (Nat.cast (R := Int) i) ∧ (Nat.cast (R := Int) i) < (Nat.cast (R := Int) (List.map lD L).length)), decide ((Nat.cast (R := Int) i).toNat < (List.map lD L).length), Nat.ble 1 ((List.map lD L).getD (Nat.cast (R := Int) i).toNat DV.nilp).cells.length], [(RV.d (DV.bool (decide ((Nat.cast (R := Int) i) < (Nat.cast (R := Int) (List.map lD L).length)))), RV.d (DV.bool true)), (RV.d (((List.map lD L).getD (Nat.cast (R := Int) i).toNat DV.nilp).cells.getD 0 DV.nilp), RV.d (DV.int Go.IntKind.i64 n)), (RV.d (DV.bool (n == id)), RV.d (DV.bool false)), (RV.d (DV.int Go.IntKind.i64 (Go.IntKind.i64.wrap ((Nat.cast (R := Int) i) + 1))), RV.d (DV.int Go.IntKind.i64 (Nat.cast (R := Int) (i + 1))))]) := by kernel_rfl
      refine WK.segA (st := (atS L last id i)) (st' := atS L last id (i + 1)) (k := (stackAt atC 0)) (k' := stackAt atC 0) ok 1000 0 _ _ _ _ _ rfl hrun (by refine ⟨?_, ?_, ?_, trivial⟩ <;> (first | (refine decide_eq_true ?_; have := hlt h12; omega) | (rw [Int.toNat_natCast, lget (hlt h12)]; rfl))) (by refine ⟨le_bool h12, ?_, le_bool h24, ?_, trivial⟩ <;> (first | (refine .of_eq ?_; rw [wrap_succ (by have := hlt h12; omega)]; done) | (refine .of_eq ?_; rw [Int.toNat_natCast, lget (hlt h12), ← hnn]; rfl))) ?_
      have h1 := hlt h12
      exact ih (i + 1) ⟨by omega, fun j hj => (by rcases Nat.lt_or_ge j i with q | q; exact hn j q; (obtain rfl : j = i := (by omega)); rw [hnn]; intro e; rw [e] at h24; simp at h24)⟩ (by omega)
  · skip
    exact WK.fin ok 1000 0 [(22, RV.d (DV.int Go.IntKind.i64 n)), (14, RV.d (DV.int Go.IntKind.i64 (Nat.cast (R := Int) (i + 1)))), (12, RV.d (DV.bool false))] [] [(RV.d (DV.bool (decide ((Nat.cast (R := Int) i) < (Nat.cast (R := Int) (List.map lD L).length)))), RV.d (DV.bool false))] rfl (by kernel_rfl : runEnd (cfT []) true _ 1000 0 _ _ (atS L last id i) = some (RV.d (DV.int Go.IntKind.i64 (-1)), [PObj.box 72 [RV.own 1 5, RV.d (DV.int Go.IntKind.i64 last)], PObj.frz 5 (List.map lD L)], _, _)) trivial ⟨le_bool h12, trivial⟩ (by first | (have h1 := hlt h12; have h2 := eq_of_beq h24; exact ⟨by unfold atN; rw [pos_hit (i := i) (x := L.getD i zL) (by simp [h1]) (hnn.trans h2) hn], rfl⟩) | (have h1 : i = L.length := (by have := of_decide_eq_false h12; omega); exact ⟨by unfold atN; rw [pos_miss (fun j hj => hn j (by omega))], rfl⟩))
def atEn : Ent := fun a o => match a, o with
  | [.ptr 0 0, .d (.int .i64 id)], [.box 72 [.own 1 5, .d (.int .i64 last)], .frz 5 els] => some (.d (.int .i64 (atN id (els.map toL))), [.box 72 [.own 1 5, .d (.int .i64 last)], .frz 5 els], [els.all isL, decide (els.length ≤ 64)])
  | _, _ => none
theorem map_toL {l : List DV} (h : l.all isL = true) : l = (l.map toL).map lD := by
  induction l with
  | nil => rfl
  | cons x r ih =>
    simp only [List.all_cons, Bool.and_eq_true] at h
    simp only [List.map_cons]
    rw [← isL_spec h.1, ← ih h.2]
theorem toL_map (l : List Ltr) : (l.map lD).map toL = l := by
  induction l with
  | nil => rfl
  | cons x r ih => simp only [List.map_cons, ih]; rfl
theorem all_isL (l : List Ltr) : (l.map lD).all isL = true := by
  simp only [List.all_eq_true, List.mem_map]
  rintro x ⟨c, _, rfl⟩
  rfl
theorem at_ent : EntOk Try.prog 84 atEn := by
  intro p o r o' c hg hc
  unfold atEn at hg
  split at hg
  · rename_i id last els
    simp only [Option.some.injEq, Prod.mk.injEq] at hg
    obtain ⟨rfl, rfl, rfl⟩ := hg
    have h1 : els.all isL = true := hc _ (by simp)
    have h2 : els.length ≤ 64 := of_decide_eq_true (hc _ (by simp))
    have e := map_toL h1
    generalize els.map toL = L at *
    subst e
    rw [List.length_map] at h2
    have ok := cfT_ok (l := []) .nil
    refine C_of_run (fn := Try.f84) (body := atC) true (by kernel_rfl) (by kernel_rfl) (by kernel_rfl) ?_
    refine WK.segA ok 1000 0 [] [] [0, 1, 5] [] [] rfl (by kernel_rfl : runSegA (cfT []) 1000 0 _ _ _ _ (ini Try.f84.ntmps [.ptr 0 0, .d (.int .i64 id)] (refO L last)) = some (stackAt atC 0, atS L last id 0, _, _)) trivial trivial ?_
    exact at_loop L last id h2
  · cases hg
theorem equal_loop (L : List Ltr) (hl : L.length ≤ 64) : WK Try.prog 0 (stackAt eqC 0) (eqS L 0).den (Ends (Try.f48.results.toList) (.d (.bool true))) := by
  have ok := cfT_ok (l := []) .nil
  refine WK.rec' (fun i => eqS L i) (fun i => i ≤ L.length) (fun i => L.length - i) ?_ 0 (Nat.zero_le _)
  intro i hi ih
  obtain ⟨x, hx⟩ : ∃ x, L.getD i zL = x := ⟨_, rfl⟩
  have hml : (L.map lD).length = L.length := List.length_map ..
  have hlt : decide ((Nat.cast (R := Int) i) < (Nat.cast (R := Int) (List.map lD L).length)) = true → i < L.length := fun h => by have := of_decide_eq_true h; omega
  rcases Bool.eq_false_or_eq_true (decide ((Nat.cast (R := Int) i) < (Nat.cast (R := Int) (List.map lD L).length)) : Bool) with h14 | h14
  · skip
    rcases Bool.eq_false_or_eq_true (!(x.1 == x.1 && (x.2 == x.2 && (x.3 == x.3 && (x.4 == x.4 && (x.5 == x.5 && true))))) : Bool) with h24 | h24
    · skip
      exact WK.fin ok 1000 0 [(18, RV.iptr (DV.agg [DV.int Go.IntKind.i64 x.1, DV.int Go.IntKind.i64 x.2, DV.int Go.IntKind.i64 x.3, DV.str x.4, DV.bool x.5]) 0), (22, RV.iptr (DV.agg [DV.int Go.IntKind.i64 x.1, DV.int Go.IntKind.i64 x.2, DV.int Go.IntKind.i64 x.3, DV.str x.4, DV.bool x.5]) 0), (25, RV.d (DV.int Go.IntKind.i64 (Nat.cast (R := Int) (i + 1)))), (14, RV.d (DV.bool true)), (24, RV.d (DV.bool true))] [decide (0 ≤ (Nat.cast (R := Int) i) ∧ (Nat.cast (R := Int) i) < (Nat.cast (R := Int) (List.map lD L).length)), decide (0 ≤ (Nat.cast (R := Int) i) ∧ (Nat.cast (R := Int) i) < (Nat.cast (R := Int) (List.map lD L).length))] [(RV.d (DV.bool (decide ((Nat.cast (R := Int) i) < (Nat.cast (R := Int) (List.map lD L).length)))), RV.d (DV.bool true)), (RV.iptr ((List.map lD L).getD (Nat.cast (R := Int) i).toNat DV.nilp) 0, RV.iptr (DV.agg [DV.int Go.IntKind.i64 x.1, DV.int Go.IntKind.i64 x.2, DV.int Go.IntKind.i64 x.3, DV.str x.4, DV.bool x.5]) 0), (RV.iptr ((List.map lD L).getD (Nat.cast (R := Int) i).toNat DV.nilp) 0, RV.iptr (DV.agg [DV.int Go.IntKind.i64 x.1, DV.int Go.IntKind.i64 x.2, DV.int Go.IntKind.i64 x.3, DV.str x.4, DV.bool x.5]) 0), (RV.d (DV.bool !(x.1 == x.1 && (x.2 == x.2 && (x.3 == x.3 && (x.4 == x.4 && (x.5 == x.5 && true)))))), RV.d (DV.bool true))] rfl (by kernel_rfl : runEnd (cfT []) true _ 1000 0 _ _ (eqS L i) = some (RV.d (DV.bool false), [], _, _)) (by refine ⟨?_, ?_, trivial⟩ <;> ((refine decide_eq_true ?_; have := hlt h14; omega))) (by refine ⟨le_bool h14, ?_, ?_, le_bool h24, trivial⟩ <;> (first | (refine .of_eq ?_; rw [wrap_succ (by have := hlt h14; omega)]; done) | (refine .of_eq ?_; rw [Int.toNat_natCast, lget (hlt h14), hx]; rfl))) (by first | exact ⟨rfl, rfl⟩ | (exfalso; simp at h24))
    · skip
      have hrun : runSegA (cfT []) 1000 0 [(18, RV.iptr (DV.agg [DV.int Go.IntKind.i64 x.1, DV.int Go.IntKind.i64 x.2, DV.int Go.IntKind.i64 x.3, DV.str x.4, DV.bool x.5]) 0), (22, RV.iptr (DV.agg [DV.int Go.IntKind.i64 x.1, DV.int Go.IntKind.i64 x.2, DV.int Go.IntKind.i64 x.3, DV.str x.4, DV.bool x.5]) 0), (25, RV.d (DV.int Go.IntKind.i64 (Nat.cast (R := Int) (i + 1)))), (14, RV.d (DV.bool true)), (24, RV.d (DV.bool false))] [] [0, 1, 12, 13] (stackAt eqC 0) (eqS L i) = some (stackAt eqC 0, eqS L (i + 1), [decide (0 ≤ (Nat.cast (R := Int) i) ∧ (Nat.cast (R := Int) i) < (Nat.cast (R := Int) (List.map lD L).length)), decide (0 ≤ (Nat.cast (R := Int) i) ∧ (Nat.cast (R := Int) i) < (Nat.cast (R := Int) (List.map lD L).length))], [(RV.d (DV.bool (decide ((Nat.cast (R := Int) i) < (Nat.cast (R := Int) (List.map lD L).length)))), RV.d (DV.bool true)), (RV.iptr ((List.map lD L).getD (Nat.cast (R := Int) i).toNat DV.nilp) 0, RV.iptr (DV.agg [DV.int Go.IntKind.i64 x.1, DV.int Go.IntKind.i64 x.2, DV.int Go.IntKind.i64 x.3, DV.str x.4, DV.bool x.5]) 0), (RV.iptr ((List.map lD L).getD (Nat.cast (R := Int) i).toNat DV.nilp) 0, RV.iptr (DV.agg [DV.int Go.IntKind.i64 x.1, DV.int Go.IntKind.i64 x.2, DV.int Go.IntKind.i64 x.3, DV.str x.4, DV.bool x.5]) 0), (RV.d (DV.bool !(x.1 == x.1 && (x.2 == x.2 && (x.3 == x.3 && (x.4 == x.4 && (x.5 == x.5 && true)))))), RV.d (DV.bool false)), (RV.d (DV.int Go.IntKind.i64 (Go.IntKind.i64.wrap ((Nat.cast (R := Int) i) + 1))), RV.d (DV.int Go.IntKind.i64 (Nat.cast (R := Int) (i + 1))))]) := by kernel_rfl
      refine WK.segA (st := (eqS L i)) (st' := eqS L (i + 1)) (k := (stackAt eqC 0)) (k' := stackAt eqC 0) ok 1000 0 _ _ _ _ _ rfl hrun (by refine ⟨?_, ?_, trivial⟩ <;> ((refine decide_eq_true ?_; have := hlt h14; omega))) (by refine ⟨le_bool h14, ?_, ?_, le_bool h24, ?_, trivial⟩ <;> (first | (refine .of_eq ?_; rw [wrap_succ (by have := hlt h14; omega)]; done) | (refine .of_eq ?_; rw [Int.toNat_natCast, lget (hlt h14), hx]; rfl))) ?_
      have h1 := hlt h14
      exact ih (i + 1) (by omega) (by omega)
  · skip
    exact WK.fin ok 1000 0 [(18, RV.iptr (DV.agg [DV.int Go.IntKind.i64 x.1, DV.int Go.IntKind.i64 x.2, DV.int Go.IntKind.i64 x.3, DV.str x.4, DV.bool x.5]) 0), (22, RV.iptr (DV.agg [DV.int Go.IntKind.i64 x.1, DV.int Go.IntKind.i64 x.2, DV.int Go.IntKind.i64 x.3, DV.str x.4, DV.bool x.5]) 0), (25, RV.d (DV.int Go.IntKind.i64 (Nat.cast (R := Int) (i + 1)))), (14, RV.d (DV.bool false))] [] [(RV.d (DV.bool (decide ((Nat.cast (R := Int) i) < (Nat.cast (R := Int) (List.map lD L).length)))), RV.d (DV.bool false))] rfl (by kernel_rfl : runEnd (cfT []) true _ 1000 0 _ _ (eqS L i) = some (RV.d (DV.bool true), [], _, _)) trivial ⟨le_bool h14, trivial⟩ (by first | exact ⟨rfl, rfl⟩ | (exfalso; simp at h24))
def eqEn : DV → DV → Option (DV × List Bool)
  | .lst 5 a false, .lst 5 b false => some (.bool true, [a.all isL, b.all isL, decide (a.map toL = b.map toL), decide (a.length ≤ 64)])
  | _, _ => none
theorem equal_ent : EntOk Try.prog 48 (e2 eqEn) := by
  refine ent2 fun x x2 y c hg hc => ?_
  unfold eqEn at hg
  split at hg
  · rename_i a b
    simp only [Option.some.injEq, Prod.mk.injEq] at hg
    obtain ⟨rfl, rfl⟩ := hg
    have h1 : a.all isL = true := hc (a.all isL) (by simp)
    have h2 : b.all isL = true := hc (b.all isL) (by simp)
    have h3 : a.map toL = b.map toL := of_decide_eq_true (hc _ (by simp))
    have h4 : a.length ≤ 64 := of_decide_eq_true (hc _ (by simp))
    have e1 := map_toL h1
    have e2 := map_toL h2
    rw [← h3] at e2
    generalize a.map toL = L at *
    subst e1 e2
    rw [List.length_map] at h4
    have ok := cfT_ok (l := []) .nil
    have hml : (L.map lD).length = L.length := List.length_map ..
    obtain ⟨n, hn⟩ : ∃ n : Int, (Nat.cast (R := Int) (L.map lD).length) = n := ⟨_, rfl⟩
    refine C_of_run (fn := Try.f48) (body := eqC) true (by kernel_rfl) (by kernel_rfl) (by kernel_rfl) ?_
    rcases Bool.eq_false_or_eq_true ((Nat.cast (R := Int) (List.map lD L).length) != n : Bool) with h10 | h10
    · skip
      exact WK.fin ok 1000 0 [(9, RV.d (DV.int Go.IntKind.i64 n)), (10, RV.d (DV.bool true))] [] [(RV.d (DV.int Go.IntKind.i64 (Nat.cast (R := Int) (List.map lD L).length)), RV.d (DV.int Go.IntKind.i64 n)), (RV.d (DV.bool ((Nat.cast (R := Int) (List.map lD L).length) != n)), RV.d (DV.bool true))] rfl (by kernel_rfl : runEnd (cfT []) true _ 1000 0 _ _ (ini Try.f48.ntmps [.d (.lst 5 (L.map lD) false), .d (.lst 5 (L.map lD) false)] []) = some (RV.d (DV.bool false), [], _, _)) trivial ⟨(by (refine .of_eq ?_; rw [hn])), le_bool h10, trivial⟩ (by exfalso; rw [hn] at h10; simp at h10)
    · skip
      refine WK.segA ok 1000 0 [(9, RV.d (DV.int Go.IntKind.i64 n)), (10, RV.d (DV.bool false))] [] [0, 1, 12, 13] [] [(RV.d (DV.int Go.IntKind.i64 (Nat.cast (R := Int) (List.map lD L).length)), RV.d (DV.int Go.IntKind.i64 n)), (RV.d (DV.bool ((Nat.cast (R := Int) (List.map lD L).length) != n)), RV.d (DV.bool false))] rfl (by kernel_rfl : runSegA (cfT []) 1000 0 _ _ _ _ (ini Try.f48.ntmps [.d (.lst 5 (L.map lD) false), .d (.lst 5 (L.map lD) false)] []) = some (stackAt eqC 0, eqS L 0, _, _)) trivial ⟨(by (refine .of_eq ?_; rw [hn])), le_bool h10, trivial⟩ ?_
      exact equal_loop L h4
  · cases hg
theorem addR_ok (x : Ltr) (L : List Ltr) (last : Int) (h : L.length < 64) (hl : 0 ≤ last ∧ last < 1000000) : C Try.prog 83 [.ptr 0 0, .d (lD x)] (refO L last)
    (fun r o => r = .tup [.d (.int .i64 (last + 1)), .d (.int .i64 0)] ∧ o = [.box 72 [.own 2 5, .d (.int .i64 (last + 1))], .frz 5 (L.map lD), .arr 61 5 (List.map lD (L ++ [(⟨last + 1, x.frm, x.dst, x.bs, x.sp⟩ : Ltr)]))]) := by
  have ok := cfT_ok (l := []) .nil
  have hml : (L.map lD).length = L.length := List.length_map ..
  obtain ⟨n, hn⟩ : ∃ n, last + 1 = n := ⟨_, rfl⟩
  rw [hn]
  refine C_of_run (fn := Try.f83) (body := bodyOf Try.f83) true (by kernel_rfl) (by kernel_rfl) (by kernel_rfl) ?_
  have e : (L ++ [(⟨n, x.frm, x.dst, x.bs, x.sp⟩ : Ltr)]).map lD = L.map lD ++ [lD ⟨n, x.frm, x.dst, x.bs, x.sp⟩] := by simp
  rcases Bool.eq_false_or_eq_true (decide (64 ≤ (Nat.cast (R := Int) (List.map lD L).length)) : Bool) with h11 | h11
  · skip
    exact WK.fin ok 1000 0 [(16, RV.d (DV.int Go.IntKind.i64 n)), (11, RV.d (DV.bool true))] [] [(RV.d (DV.bool (decide (64 ≤ (Nat.cast (R := Int) (List.map lD L).length)))), RV.d (DV.bool true))] rfl (by kernel_rfl : runEnd (cfT []) true _ 1000 0 _ _ (ini Try.f83.ntmps [.ptr 0 0, .d (lD x)] (refO L last)) = some (RV.tup [RV.d (DV.int Go.IntKind.i64 (0)), RV.d (DV.int Go.IntKind.i64 (8))], [PObj.box 72 [RV.own 1 5, RV.d (DV.int Go.IntKind.i64 last)], PObj.frz 5 (List.map lD L)], _, _)) trivial ⟨le_bool h11, trivial⟩ (by first | (exfalso; have := of_decide_eq_true h11; omega) | exact ⟨rfl, by rw [e]; rfl⟩)
  · skip
    exact WK.fin ok 1000 0 [(16, RV.d (DV.int Go.IntKind.i64 n)), (11, RV.d (DV.bool false))] [decide ((([] : List DV).length + (List.map lD L).length) * 48 ≤ 2 ^ 38), decide ((([] ++ List.map lD L).length + [DV.agg [DV.int Go.IntKind.i64 n, DV.int Go.IntKind.i64 x.frm, DV.int Go.IntKind.i64 x.dst, DV.str x.bs, DV.bool x.sp]].length) * 48 ≤ 2 ^ 38)] [(RV.d (DV.bool (decide (64 ≤ (Nat.cast (R := Int) (List.map lD L).length)))), RV.d (DV.bool false)), (RV.d (DV.int Go.IntKind.i64 (Go.IntKind.i64.wrap (last + 1))), RV.d (DV.int Go.IntKind.i64 n))] rfl (by kernel_rfl : runEnd (cfT []) true _ 1000 0 _ _ (ini Try.f83.ntmps [.ptr 0 0, .d (lD x)] (refO L last)) = some (RV.tup [RV.d (DV.int Go.IntKind.i64 n), RV.d (DV.int Go.IntKind.i64 (0))], [PObj.box 72 [RV.own 2 5, RV.d (DV.int Go.IntKind.i64 n)], PObj.frz 5 (List.map lD L), PObj.arr 61 5 ([] ++ List.map lD L ++ [DV.agg [DV.int Go.IntKind.i64 n, DV.int Go.IntKind.i64 x.2, DV.int Go.IntKind.i64 x.3, DV.str x.4, DV.bool x.5]])], _, _)) (by refine ⟨?_, ?_, trivial⟩ <;> (first | with_reducible rfl | (with_reducible exact capOk3 rfl (by simp only [List.length_cons, List.length_nil, List.length_append, List.length_map]; omega)) | (refine decide_eq_true ?_; simp only [List.length_cons, List.length_nil, List.length_append, List.length_map]; omega))) ⟨le_bool h11, (by (refine .of_eq ?_; rw [i64_in _ (by omega), hn])), trivial⟩ (by first | (exfalso; have := of_decide_eq_true h11; omega) | exact ⟨rfl, by rw [e]; rfl⟩)
theorem addR_no (x : Ltr) (L : List Ltr) (last : Int) (h : 64 ≤ L.length) (hl : 0 ≤ last ∧ last < 1000000) : C Try.prog 83 [.ptr 0 0, .d (lD x)] (refO L last)
    (fun r o => r = .tup [.d (.int .i64 0), .d (.int .i64 8)] ∧ o = refO L last) := by
  have ok := cfT_ok (l := []) .nil
  have hml : (L.map lD).length = L.length := List.length_map ..
  obtain ⟨n, hn⟩ : ∃ n, last + 1 = n := ⟨_, rfl⟩
  refine C_of_run (fn := Try.f83) (body := bodyOf Try.f83) true (by kernel_rfl) (by kernel_rfl) (by kernel_rfl) ?_
  rcases Bool.eq_false_or_eq_true (decide (64 ≤ (Nat.cast (R := Int) (List.map lD L).length)) : Bool) with h11 | h11
  · exact WK.fin ok 1000 0 [(11, .d (.bool true))] [] [(.d (.bool (decide (64 ≤ (Nat.cast (R := Int) (List.map lD L).length)))), .d (.bool true))] rfl (by kernel_rfl : runEnd (cfT []) true _ 1000 0 _ _ (ini Try.f83.ntmps [.ptr 0 0, .d (lD x)] (refO L last)) = some (.tup [.d (.int .i64 0), .d (.int .i64 8)], refO L last, _, _)) trivial ⟨le_bool h11, trivial⟩ ⟨rfl, rfl⟩
  · exfalso; have := of_decide_eq_false h11; omega
end Go.Proofs.Ytchmeldlpoimnaa
