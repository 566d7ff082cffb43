/-
  Letters: maps.Keys, Drop, Flight.
-/
import Derived.Test.YtchmeldlpoimnaaAmV4
namespace Go.Proofs.Ytchmeldlpoimnaa
open Go.RowKit Am IntWalk
set_option maxRecDepth 100000
set_option linter.unusedVariables false
set_option linter.unusedSimpArgs false

theorem keys_ent : EntOk Try.prog 82 keysEn := by
  intro p o r o' c hg hc
  unfold keysEn at hg
  split at hg
  · rename_i es
    simp only [Option.some.injEq, Prod.mk.injEq] at hg
    obtain ⟨rfl, rfl, rfl⟩ := hg
    have ok := cfT_ok tv3_ok
    refine C_of_run (fn := Try.f82) (body := bodyOf Try.f82) true (by kernel_rfl) (by kernel_rfl) (by kernel_rfl) ?_
    exact WK.fin ok 1000 0 [] [] [] rfl (by kernel_rfl : runEnd (cfT tv3) true _ 1000 0 _ _ (ini Try.f82.ntmps [.map 0] [.map es]) = some (RV.clo (Go.Fn.func 112) [] [RV.ptr 1 0], [PObj.map es, PObj.box 55 [RV.map 0]], _, _)) trivial trivial ⟨rfl, rfl⟩
  · cases hg
theorem drop_ent : EntOk Try.prog 40 dropEn := by
  intro p o r o' c hg hc
  unfold dropEn at hg
  split at hg
  · rename_i id last es
    simp only [Option.some.injEq, Prod.mk.injEq] at hg
    obtain ⟨rfl, rfl, rfl⟩ := hg
    obtain ⟨h2, h3⟩ := isRows_un (hc (isRows es last) (by simp))
    have ok := cfT_ok tv3_ok
    generalize unrows es = L at *
    subst h2
    refine C_of_run (fn := Try.f40) (body := bodyOf Try.f40) true (by kernel_rfl) (by kernel_rfl) (by kernel_rfl) ?_
    exact WK.fin ok 1000 0 [] [isRows (rows L) last] [] rfl (by kernel_rfl : runEnd (cfT tv3) true _ 1000 0 _ _ (ini Try.f40.ntmps [.ptr 0 0, .d (.int .i64 id)] (netO L last)) = some (RV.d (DV.int Go.IntKind.i64 (findN id (unrows (rows L))).2), [PObj.box 115 [RV.map 1, RV.d (DV.int Go.IntKind.i64 last)], PObj.map (rows (del id (unrows (rows L))))], _, _)) ⟨(by exact isRows_of h3), trivial⟩ trivial ⟨by rw [un_rows], by rw [un_rows]; rfl⟩
  · cases hg
theorem tv4_ok : EntsOk Try.prog tv4 := .cons keys_ent (.cons drop_ent tv3_ok)

abbrev EndsO (n : Nat) (rs : List ResultVar) (v : RV) (o : List PObj) : SSt → Prop := fun s => ∃ r objs' c, finish (Env.of Try.prog) true n rs s.R s.O = some (r, objs', c) ∧ (∀ b ∈ c, b = true) ∧ r = v ∧ objs' = o
theorem lst_weak (n : Nat) : RVle (.d (.lst 0 [] true)) (.d (.lst n [] false)) := by
  intro κ φ O h v r
  cases r with
  | d hr =>
    cases hr with
    | lst0 hf => exact .d (.lst0 (by simp))
    | lst hκ hb hf hc hs hz hr => exact .d (.lst0 (by simp))
theorem sk_len (L : List Ltr) : (sortedKeys (rows L)).length = L.length := by simp [sortedKeys, rows]
theorem sk_get {L : List Ltr} {i : Nat} {x : Ltr} (h : L[i]? = some x) : (sortedKeys (rows L)).getD i .nilp = .int .i64 x.id := by
  simp [sortedKeys, rows, h, kOf]
theorem fnd_get : ∀ {L : List Ltr} {b : Int} {i : Nat} {x : Ltr}, upI L b = true → L[i]? = some x → fnd x.id L = some x
  | l :: r, b, 0, x, _, h => by
    simp at h; subst h; simp [fnd]
  | l :: r, b, i + 1, x, hu, h => by
    simp only [upI, Bool.and_eq_true, decide_eq_true_eq] at hu
    have h2 : r[i]? = some x := by simpa using h
    have h3 := upI_lt hu.2 x (List.mem_of_getElem? h2)
    unfold fnd
    rw [if_neg (by simp; omega)]
    exact fnd_get hu.2 h2
theorem kUp_rows : ∀ {L : List Ltr} {b : Int}, upI L b = true → (∀ l ∈ L, l.id ≤ 1000000) → kUp (rows L) b = true
  | [], _, _, _ => rfl
  | l :: r, b, h, hl => by
    simp only [upI, Bool.and_eq_true, decide_eq_true_eq] at h
    have e : kUp (rows (l :: r)) b = (decide (b < l.id ∧ l.id ≤ 1000000) && kUp (rows r) l.id) := rfl
    rw [e, kUp_rows h.2 (fun y hy => hl y (by simp [hy])), Bool.and_true]
    exact decide_eq_true ⟨h.1, hl l (by simp)⟩
theorem capOk3 {a b : Nat} (hb : b = 48) (h : a ≤ 1000000) : decide (a * b ≤ 2 ^ 38) = true := by
  rw [hb]; exact decide_eq_true (by omega)
theorem mg_rows {id : Int} {L : List Ltr} {x : Ltr} (h : fnd id L = some x) : RV.d (mget ((DV.int .i64 id).cells.getD 0 .nilp) (lD zL) (rows L)) = RV.d (lD x) := by
  have := mget_rows id (lD zL) L
  rw [h] at this
  exact congrArg RV.d this
theorem flight_loop (L : List Ltr) (last : Int) (h : NetOk L last) (i : Nat) (hi : i ≤ L.length) :
    WK Try.prog 2 (stackAt flC 0) (flS1 L last i ((L.take i).map lD)).den (EndsO 2 (Try.f43.results.toList) (.d (.lst 5 (L.map lD) false)) (netO L last)) := by
  have ok := cfT_ok tv4_ok
  refine WK.rec' (fun i => flS1 L last i ((L.take i).map lD)) (fun i => i ≤ L.length) (fun i => L.length - i) ?_ i hi
  clear hi i
  rintro i hi ih
  have h64 := h.len
  have hlt : decide ((Nat.cast (R := Int) i) < (Nat.cast (R := Int) (sortedKeys (rows L)).length)) = true → i < L.length := fun h => by have := of_decide_eq_true h; rw [sk_len] at this; omega
  have hge : decide ((Nat.cast (R := Int) i) < (Nat.cast (R := Int) (sortedKeys (rows L)).length)) = false → i = L.length := fun h => by have := of_decide_eq_false h; rw [sk_len] at this; omega
  obtain ⟨x, hx⟩ : ∃ x, L.getD i zL = x := ⟨_, rfl⟩
  obtain ⟨id, hid⟩ : ∃ n, x.id = n := ⟨_, rfl⟩
  obtain ⟨els, hels⟩ : ∃ l, (L.take i).map lD = l := ⟨_, rfl⟩
  have hget : i < L.length → L[i]? = some x := fun h => by rw [← hx]; simp [h]
  have hel : els.length ≤ 64 := by rw [← hels]; simp; omega
  rw [hels]
  rcases Bool.eq_false_or_eq_true (decide ((Nat.cast (R := Int) i) < (Nat.cast (R := Int) (sortedKeys (rows L)).length)) : Bool) with h16 | h16
  · skip
    have hrun : runSegA (cfT tv4) 1000 0 [(17, RV.iptr (DV.int Go.IntKind.i64 id) 0), (25, RV.d (DV.agg [DV.int Go.IntKind.i64 x.1, DV.int Go.IntKind.i64 x.2, DV.int Go.IntKind.i64 x.3, DV.str x.4, DV.bool x.5])), (28, RV.d (DV.int Go.IntKind.i64 (Nat.cast (R := Int) (i + 1)))), (16, RV.d (DV.bool true))] [] [0, 3, 13, 14, 15] (stackAt flC 0) (flS1 L last i els) = some (stackAt flC 0, flS1 L last (i + 1) (els ++ [DV.agg [DV.int Go.IntKind.i64 x.1, DV.int Go.IntKind.i64 x.2, DV.int Go.IntKind.i64 x.3, DV.str x.4, DV.bool x.5]]), [decide (0 ≤ (Nat.cast (R := Int) i) ∧ (Nat.cast (R := Int) i) < (Nat.cast (R := Int) (sortedKeys (rows L)).length)), (rows L).all fun p => keyOk ((cfT tv4).E.und (3)) p.fst, decide ((els.length + [lD x].length) * 48 ≤ 2 ^ 38)], [(RV.d (DV.bool (decide ((Nat.cast (R := Int) i) < (Nat.cast (R := Int) (sortedKeys (rows L)).length)))), RV.d (DV.bool true)), (RV.iptr ((sortedKeys (rows L)).getD (Nat.cast (R := Int) i).toNat DV.nilp) 0, RV.iptr (DV.int Go.IntKind.i64 id) 0), (RV.d (mget ((DV.int Go.IntKind.i64 id).cells.getD (0) DV.nilp) (DV.agg [DV.int Go.IntKind.i64 (0), DV.int Go.IntKind.i64 (0), DV.int Go.IntKind.i64 (0), DV.str ([] : List UInt8), DV.bool false]) (rows L)), RV.d (DV.agg [DV.int Go.IntKind.i64 x.1, DV.int Go.IntKind.i64 x.2, DV.int Go.IntKind.i64 x.3, DV.str x.4, DV.bool x.5])), (RV.d (DV.int Go.IntKind.i64 (Go.IntKind.i64.wrap ((Nat.cast (R := Int) i) + 1))), RV.d (DV.int Go.IntKind.i64 (Nat.cast (R := Int) (i + 1))))]) := by kernel_rfl
    refine WK.segA (st := (flS1 L last i els)) (st' := flS1 L last (i + 1) (els ++ [DV.agg [DV.int Go.IntKind.i64 x.1, DV.int Go.IntKind.i64 x.2, DV.int Go.IntKind.i64 x.3, DV.str x.4, DV.bool x.5]])) (k := (stackAt flC 0)) (k' := stackAt flC 0) ok 1000 0 _ _ _ _ _ rfl hrun (by refine ⟨?_, ?_, ?_, trivial⟩ <;> (first | exact keys_rows L | with_reducible exact capOk3 rfl (by simp only [List.length_cons, List.length_nil]; omega) | (refine decide_eq_true ?_; have := hlt h16; rw [sk_len]; omega))) (by refine ⟨le_bool h16, ?_, ?_, ?_, trivial⟩ <;> (first | (refine .of_eq ?_; rw [wrap_succ (by have := hlt h16; omega)]; done) | (have hg := hget (hlt h16); refine .of_eq ?_; rw [Int.toNat_natCast, sk_get hg, hid]; done) | (have hg := hget (hlt h16); exact .of_eq (mg_rows (hid ▸ fnd_get h.up hg))))) ?_
    have hg := hget (hlt h16)
    have hl := hlt h16
    have hw := ih (i + 1) (by omega) (by omega)
    rw [List.take_add_one, hg, List.map_append, hels] at hw
    exact hw
  · skip
    exact WK.fin ok 1000 0 [(17, RV.iptr (DV.int Go.IntKind.i64 id) 0), (25, RV.d (DV.agg [DV.int Go.IntKind.i64 x.1, DV.int Go.IntKind.i64 x.2, DV.int Go.IntKind.i64 x.3, DV.str x.4, DV.bool x.5])), (28, RV.d (DV.int Go.IntKind.i64 (Nat.cast (R := Int) (i + 1)))), (16, RV.d (DV.bool false))] [] [(RV.d (DV.bool (decide ((Nat.cast (R := Int) i) < (Nat.cast (R := Int) (sortedKeys (rows L)).length)))), RV.d (DV.bool false))] rfl (by kernel_rfl : runEnd (cfT tv4) true _ 1000 0 _ _ (flS1 L last i els) = some (RV.d (DV.lst 5 els false), [PObj.box 115 [RV.map 1, RV.d (DV.int Go.IntKind.i64 last)], PObj.map (rows L)], _, _)) trivial ⟨le_bool h16, trivial⟩ ⟨by rw [← hels, hge h16, List.take_length], rfl⟩
theorem flight_c (L : List Ltr) (last : Int) (h : NetOk L last) : C Try.prog 43 [.ptr 0 0] (netO L last) (fun r o => r = .d (.lst 5 (L.map lD) false) ∧ o = netO L last) := by
  have ok := cfT_ok tv4_ok
  refine C_of_run (fn := Try.f43) (body := flC) true (by kernel_rfl) (by kernel_rfl) (by kernel_rfl) ?_
  have h64 := h.len
  have hlt : decide ((Nat.cast (R := Int) 0) < (Nat.cast (R := Int) (sortedKeys (rows L)).length)) = true → 0 < L.length := fun h => by have := of_decide_eq_true h; rw [sk_len] at this; omega
  have hge : decide ((Nat.cast (R := Int) 0) < (Nat.cast (R := Int) (sortedKeys (rows L)).length)) = false → L = [] := fun h => by
    have := of_decide_eq_false h; rw [sk_len] at this; exact List.eq_nil_of_length_eq_zero (by omega)
  obtain ⟨x, hx⟩ : ∃ x, L.getD 0 zL = x := ⟨_, rfl⟩
  obtain ⟨id, hid⟩ : ∃ n, x.id = n := ⟨_, rfl⟩
  have hget : 0 < L.length → L[0]? = some x := fun h => by rw [← hx]; simp [h]
  have hS0 : WK Try.prog 2 (stackAt flC 0) (flS0 L last).den (EndsO 2 (Try.f43.results.toList) (.d (.lst 5 (L.map lD) false)) (netO L last)) := by
    rcases Bool.eq_false_or_eq_true (decide (Nat.cast (R := Int)  (0) < (Nat.cast (R := Int) (sortedKeys (rows L)).length)) : Bool) with h16 | h16
    · skip
      have hrun : runSegA (cfT tv4) 1000 0 [(17, RV.iptr (DV.int Go.IntKind.i64 id) 0), (25, RV.d (DV.agg [DV.int Go.IntKind.i64 x.1, DV.int Go.IntKind.i64 x.2, DV.int Go.IntKind.i64 x.3, DV.str x.4, DV.bool x.5])), (28, RV.d (DV.int Go.IntKind.i64 (1))), (29, RV.d (DV.lst 5 [] false)), (16, RV.d (DV.bool true))] [] [0, 3, 13, 14, 15] (stackAt flC 0) (flS0 L last) = some (stackAt flC 0, flS1 L last 1 ([] ++ [DV.agg [DV.int Go.IntKind.i64 x.1, DV.int Go.IntKind.i64 x.2, DV.int Go.IntKind.i64 x.3, DV.str x.4, DV.bool x.5]]), [decide (0 ≤ Nat.cast (R := Int)  (0) ∧ Nat.cast (R := Int)  (0) < (Nat.cast (R := Int) (sortedKeys (rows L)).length)), (rows L).all fun p => keyOk ((cfT tv4).E.und (3)) p.fst, true, true], [(RV.d (DV.bool (decide (Nat.cast (R := Int)  (0) < (Nat.cast (R := Int) (sortedKeys (rows L)).length)))), RV.d (DV.bool true)), (RV.iptr ((sortedKeys (rows L)).getD (Nat.cast (R := Int)  (0)).toNat DV.nilp) 0, RV.iptr (DV.int Go.IntKind.i64 id) 0), (RV.d (mget ((DV.int Go.IntKind.i64 id).cells.getD (0) DV.nilp) (DV.agg [DV.int Go.IntKind.i64 (0), DV.int Go.IntKind.i64 (0), DV.int Go.IntKind.i64 (0), DV.str ([] : List UInt8), DV.bool false]) (rows L)), RV.d (DV.agg [DV.int Go.IntKind.i64 x.1, DV.int Go.IntKind.i64 x.2, DV.int Go.IntKind.i64 x.3, DV.str x.4, DV.bool x.5])), (RV.d (DV.int Go.IntKind.i64 (1)), RV.d (DV.int Go.IntKind.i64 (1)))]) := by kernel_rfl
      refine WK.segA (st := (flS0 L last)) (st' := flS1 L last 1 ([] ++ [DV.agg [DV.int Go.IntKind.i64 x.1, DV.int Go.IntKind.i64 x.2, DV.int Go.IntKind.i64 x.3, DV.str x.4, DV.bool x.5]])) (k := (stackAt flC 0)) (k' := stackAt flC 0) ok 1000 0 _ _ _ _ _ rfl hrun (by refine ⟨?_, ?_, ?_, ?_, trivial⟩ <;> (first | exact keys_rows L | with_reducible rfl | (refine decide_eq_true ?_; have := hlt h16; rw [sk_len]; omega))) (by refine ⟨le_bool h16, ?_, ?_, ?_, trivial⟩ <;> (first | exact lst_weak 5 | exact .of_eq rfl | (have hg := hget (hlt h16); exact .of_eq (by rw [show (Nat.cast (R := Int) 0).toNat = 0 from rfl, sk_get hg, hid])) | (have hg := hget (hlt h16); exact .of_eq (mg_rows (hid ▸ fnd_get h.up hg))))) ?_
      have hg := hget (hlt h16)
      have hl := hlt h16
      have hw := flight_loop L last h 1 hl
      rw [show L.take 1 = [x] from (by rw [List.take_add_one, hg]; rfl)] at hw
      exact hw
    · skip
      exact WK.fin ok 1000 0 [(17, RV.iptr (DV.int Go.IntKind.i64 id) 0), (25, RV.d (DV.agg [DV.int Go.IntKind.i64 x.1, DV.int Go.IntKind.i64 x.2, DV.int Go.IntKind.i64 x.3, DV.str x.4, DV.bool x.5])), (28, RV.d (DV.int Go.IntKind.i64 (1))), (29, RV.d (DV.lst 5 [] false)), (16, RV.d (DV.bool false))] [] [(RV.d (DV.bool (decide (Nat.cast (R := Int)  (0) < (Nat.cast (R := Int) (sortedKeys (rows L)).length)))), RV.d (DV.bool false)), (RV.d (DV.lst 0 [] true), RV.d (DV.lst 5 [] false))] rfl (by kernel_rfl : runEnd (cfT tv4) true _ 1000 0 _ _ (flS0 L last) = some (RV.d (DV.lst 5 [] false), [PObj.box 115 [RV.map 1, RV.d (DV.int Go.IntKind.i64 last)], PObj.map (rows L)], _, _)) trivial ⟨le_bool h16, (by first | exact lst_weak 5 | exact .of_eq rfl | (have hg := hget (hlt h16); exact .of_eq (by rw [show (Nat.cast (R := Int) 0).toNat = 0 from rfl, sk_get hg, hid])) | (have hg := hget (hlt h16); exact .of_eq (mg_rows (hid ▸ fnd_get h.up hg)))), trivial⟩ ⟨by rw [hge h16]; rfl, rfl⟩
  refine WK.segA ok 1000 0 [] [] [0, 3, 13, 14, 15] [decide ((rows L).length ≤ 1000), kUp (rows L) (0)] [] rfl (by kernel_rfl : runSegA (cfT tv4) 1000 0 _ _ _ _ (ini Try.f43.ntmps [.ptr 0 0] (netO L last)) = some (stackAt flC 0, flS0 L last, _, _)) (by refine ⟨?_, ?_, trivial⟩ <;> (first | (refine decide_eq_true ?_; have : (rows L).length = L.length := List.length_map ..; omega) | exact kUp_rows h.up (fun l hl => by have := h.le l hl; have := h.hi; omega))) trivial ?_
  exact hS0
def flEn : Ent := fun p o => match p, o with
  | [.ptr 0 0], [.box 115 [.map 1, .d (.int .i64 last)], .map es] => some (.d (.lst 5 ((unrows es).map lD) false), netO (unrows es) last, [isRows es last])
  | _, _ => none
theorem fl_ent : EntOk Try.prog 43 flEn := by
  intro p o r o' c hg hc
  unfold flEn at hg
  split at hg
  · rename_i last es
    simp only [Option.some.injEq, Prod.mk.injEq] at hg
    obtain ⟨rfl, rfl, rfl⟩ := hg
    obtain ⟨h2, h3⟩ := isRows_un (hc (isRows es last) (by simp))
    have := flight_c (unrows es) last h3
    unfold netO at this ⊢
    rw [← h2] at this ⊢
    exact this
  · cases hg
noncomputable def tv5 : List (Nat × Ent) := (43, flEn) :: tv4
theorem tv5_ok : EntsOk Try.prog tv5 := .cons fl_ent tv4_ok
end Go.Proofs.Ytchmeldlpoimnaa
