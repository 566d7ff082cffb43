/-
  slices.Sorted of maps.Keys, for the abstract machine, out of the shelf's contracts: of a map whose keys stand in order they come as they stand.
-/
import Derived.Test.YtchmeldlpoimnaaAmV1
import Derived.Test.YtchmeldlpoimnaaSort
import Derived.Maps.Range
namespace Go.Proofs.Ytchmeldlpoimnaa
open Go.RowKit Am IntWalk Go.Maps Go.Sort Go.Shelf
set_option maxRecDepth 100000
set_option linter.unusedVariables false

theorem sortsIn (m : Nat) : AnyZI.SortsIn Try.prog Try.sortedA_ren Fence.wide m :=
  ⟨fun blk off cap ss W hH hblk hsz => callsIn_wide.2 (AnyM.slices_Sort_int Try.sortA blk off cap ss W hH hblk hsz),
   fun p cap W => callsIn_wide.2 (AnyM.slices_Sort_int_none Try.sortA p cap W)⟩

theorem sorted_calls {H : Type} (Bm b nn : Nat) (D0 : DataW H) (R : Value → Option (DataW H × List MemPlace)) (w : World) (hBm : Bm < w.heap.size) (hm : w.cell? ⟨Bm, 0, none⟩ = some (.map (some b))) (hown : w.ownsMap Try.prog 3 R b nn D0) (hmax : Maps.size D0 ≤ maxLen) (hbytes : Maps.size D0 * 8 ≤ 140737488355328) :
    Calls Try.prog 81 #[.func (.func 112) #[] #[.pointer (some ⟨Bm, 0, none⟩)]] w fun e w' => ∃ (v : Value) (ss : List Int), e = .returned v ∧ ss.Perm (intKeys D0) ∧
      w'.ownsRow w.heap.size 3 1 v ss.length ((ss.mergeSort (fun x y => decide (x ≤ y))).map encZ) ∧ (v = .slice none 0 0 ↔ ss = []) ∧ Below w.heap.size w w' := by
  have hseq : SeqGives Fence.wide 2 Try.prog 112 #[.pointer (some ⟨Bm, 0, none⟩)] encZ (fun ss => ss.Perm (intKeys D0)) (Maps.size D0) w :=
    AnyZI.keys_gives (ρ := Try.keysA_ren) { Try.keysA with } Fence.wide _ trivial rfl (by omega) Bm b nn D0 _ hBm hm hown
  exact (callsIn_wide (n := 5)).1 (AnyZI.sorted_in Try.sortedA Fence.wide 5 trivial trivial trivial trivial rfl (by omega) (sortsIn _) (enters_of Try.func111 (by kernel_rfl) rfl) 112 #[.pointer (some ⟨Bm, 0, none⟩)] trivial (enters_of Try.func112 (by kernel_rfl) rfl) _ _ hmax hbytes _ hseq)

/-- The keys of rows that stand in order. -/
def kOf : DV × DV → Int
  | (.int _ k, _) => k
  | _ => 0
def kUp : List (DV × DV) → Int → Bool
  | [], _ => true
  | (.int .i64 k, _) :: r, b => decide (b < k ∧ k ≤ 1000000) && kUp r k
  | _, _ => false
theorem kUp_spec : ∀ {es : List (DV × DV)} {b : Int}, 0 ≤ b → kUp es b = true → (∀ p ∈ es, p.1 = .int .i64 (kOf p) ∧ b < kOf p ∧ kOf p ≤ 1000000) ∧ (es.map kOf).Pairwise (· < ·)
  | [], _, _, _ => by simp
  | (.int .i64 k, y) :: r, b, hb, h => by
    simp only [kUp, Bool.and_eq_true, decide_eq_true_eq] at h
    obtain ⟨h1, h2⟩ := kUp_spec (by omega) h.2
    refine ⟨fun p hp => ?_, ?_⟩
    · rcases List.mem_cons.1 hp with rfl | hp
      · exact ⟨rfl, h.1.1, h.1.2⟩
      · obtain ⟨q1, q2, q3⟩ := h1 p hp
        exact ⟨q1, by omega, q3⟩
    · rw [List.map_cons, List.pairwise_cons]
      refine ⟨fun x hx => ?_, h2⟩
      obtain ⟨p, hp, rfl⟩ := List.mem_map.1 hx
      exact (h1 p hp).2.1
theorem undK : Try.prog.underlying 3 = some (.int .i64) := by kernel_rfl
abbrev rNone : Value → Option (DataW Unit × List MemPlace) := fun _ => some (.nil, [])
abbrev sortedKeys (es : List (DV × DV)) : List DV := es.map fun p => .int .i64 (kOf p)
theorem sorted_c (es : List (DV × DV)) (T : Nat) (hl : es.length ≤ 1000) (hu : kUp es 0 = true) :
    C Try.prog 81 [.clo (.func 112) [] [.ptr 0 0]] [.box T [.map 1], .map es]
      (fun r o => r = .d (.lst 1 (sortedKeys es) false) ∧ o = [.box T [.map 1], .map es]) := by
  obtain ⟨hk, hp⟩ := kUp_spec (by decide) hu
  intro κ φ w vs h1 h2 h3 h4
  -- the argument
  have hv : ∃ bm, vs = #[.func (.func 112) #[] #[.pointer (some ⟨bm, 0, none⟩)]] ∧ φ 0 = .at bm := by
    have hs : vs.size = 1 := by simpa using h3
    have := h4 0 _ vs[0] rfl (by simp [hs])
    generalize hx : vs[0] = x at this
    cases this with
    | clo hfl hcl hf hc =>
      rename_i f c
      have e1 : f = #[] := by apply Array.eq_empty_of_size_eq_zero; simpa using hfl
      have hcs : c.size = 1 := by simpa using hcl
      have := hc 0 (.ptr 0 0) c[0] rfl (by simp [hcs])
      generalize hy : c[0] = y at this
      cases this with
      | ptr hφ =>
        rename_i bm
        refine ⟨bm, ?_, hφ⟩
        apply Array.ext
        · simp [hs]
        · intro i hi hi2
          have : i = 0 := by simp at hi2; omega
          subst this
          rw [hx, e1]
          have : c = #[.pointer (some ⟨bm, 0, none⟩)] := by
            apply Array.ext
            · simp [hcs]
            · intro i hi hi2
              have : i = 0 := by simp at hi2; omega
              subst this
              rw [hy]; rfl
          rw [this]; rfl
  obtain ⟨bm, rfl, hφ0⟩ := hv
  have o0 := h1 0
  obtain ⟨b0, c, q1, q2, q3, q4, q5, q6⟩ := o0
  have hb0 : b0 = bm := by rw [q1] at hφ0; injection hφ0
  subst hb0
  have o1 := h1 1
  obtain ⟨b, mes, clock, g1, g2, g3, ⟨g4, gn⟩, g5⟩ := o1
  have hcs : c.size = 1 := by simpa using q4
  have hc0 : c[0]? = some (.map (some b)) := by
    have := q6 0 (.map 1) c[0] rfl (by simp [hcs])
    generalize hy : c[0] = y at this
    cases this with
    | map hφ =>
      rename_i b'
      have : b = b' := by rw [g1] at hφ; injection hφ
      subst this
      simp [hcs, hy]
  have hbm : b0 < w.heap.size := h2 b0 (by rw [q2]; simp)
  have hcell : w.cell? ⟨b0, 0, none⟩ = some (.map (some b)) := by
    simp only [World.cell?, q3]
    simpa using hc0
  -- the rows as the shelf reads them
  have hrow : ∀ (j : Nat) (e : MapEntry), mes[j]? = some e → ∃ p, es[j]? = some p ∧ e.key = .int .i64 (kOf p) ∧ e.born < clock := fun j e he => by
    have hj : j < mes.size := (Array.getElem?_eq_some_iff.1 he).1
    have hj2 : j < es.length := by omega
    refine ⟨es[j], by simp [hj2], ?_, (g5 j es[j] e (by simp [hj2]) he).2.2⟩
    have := (g5 j es[j] e (by simp [hj2]) he).1
    rw [(hk es[j] (List.getElem_mem hj2)).1] at this
    generalize e.key = x at this
    cases this
    rfl
  have hkeys : mes.toList.map (fun e => e.key) = es.map fun p => Value.int .i64 (kOf p) := by
    apply List.ext_getElem?
    intro j
    rw [List.getElem?_map, List.getElem?_map, Array.getElem?_toList]
    cases he : mes[j]? with
    | none =>
      have : es[j]? = none := by
        rw [List.getElem?_eq_none_iff]
        rw [Array.getElem?_eq_none_iff] at he
        omega
      rw [this]; rfl
    | some e =>
      obtain ⟨p, hp1, hp2, _⟩ := hrow j e he
      rw [hp1]; simp [hp2]
  have hnd : (es.map kOf).Nodup := hp.imp (fun h => by omega)
  have hwf : ∀ p ∈ es, (Lit.int .i64 (kOf p)).wf = true := fun p hp => by
    obtain ⟨_, q2, q3⟩ := hk p hp
    have e1 : IntKind.i64.min ≤ kOf p := Int.le_trans (by decide : IntKind.i64.min ≤ 0) (by omega)
    have e2 : kOf p ≤ IntKind.i64.max := Int.le_trans q3 (by decide)
    simp only [Lit.wf, e1, e2, decide_true, Bool.and_true]
  have hrd : ∀ x ∈ mes.toList, ∃ k : Int, x.key = .int .i64 k ∧ Go.WideElems.rd Try.prog 3 rNone x = some (.int .i64 k, .nil) := fun x hx => by
    obtain ⟨j, hj, he⟩ := List.mem_iff_getElem.1 hx
    obtain ⟨p, hp1, hp2, _⟩ := hrow j x (by rw [← he]; simp)
    refine ⟨kOf p, hp2, ?_⟩
    unfold Go.WideElems.rd
    rw [hp2, keyOf_int_mk undK (hwf p (List.mem_of_getElem? hp1))]
    rfl
  have hfit : Go.WideElems.Fit Try.prog 3 rNone mes clock := {
    size := by have : (1000 : Nat) ≤ maxLen := by decide
               omega
    stamped := ⟨fun x hx => by
      obtain ⟨j, hj, he⟩ := List.mem_iff_getElem.1 hx
      obtain ⟨p, _, _, hp3⟩ := hrow j x (by rw [← he]; simp)
      exact hp3, gn, by
        show (mes.toList.map (fun e => e.key)).Nodup
        rw [hkeys]
        have : (es.map fun p => Value.int .i64 (kOf p)) = (es.map kOf).map (Value.int .i64) := by simp
        rw [this]
        exact hnd.map _ (fun a b hne e => hne (by injection e))⟩
    reads := fun x hx => by obtain ⟨k, _, h⟩ := hrd x hx; exact ⟨_, h⟩ }
  have hown : w.ownsMap Try.prog 3 rNone b mes.size (.map ((mes.toList.map (Go.WideElems.rg Try.prog 3 rNone)).foldr DataW.insert [])) :=
    ⟨mes, clock, g3, hfit, Nat.le_refl _, rfl⟩
  have hperm := Go.WideShapes.sorted_perm (mes.toList.map (Go.WideElems.rg Try.prog 3 rNone))
  have hik : (intKeys (DataW.map ((mes.toList.map (Go.WideElems.rg Try.prog 3 rNone)).foldr DataW.insert []))).Perm (es.map kOf) := by
    refine (hperm.map (fun p => Go.intOf p.1)).trans ?_
    rw [List.map_map]
    have : (mes.toList.map ((fun p : Lit × DataW Unit => Go.intOf p.1) ∘ Go.WideElems.rg Try.prog 3 rNone)) = es.map kOf := by
      apply List.ext_getElem?
      intro j
      rw [List.getElem?_map, List.getElem?_map, Array.getElem?_toList]
      cases he : mes[j]? with
      | none =>
        have : es[j]? = none := by
          rw [List.getElem?_eq_none_iff]
          rw [Array.getElem?_eq_none_iff] at he
          omega
        rw [this]; rfl
      | some e =>
        obtain ⟨p, hp1, hp2, _⟩ := hrow j e he
        rw [hp1]
        obtain ⟨k, hk1, hk2⟩ := hrd e (by have := Array.getElem?_eq_some_iff.1 he; obtain ⟨hj, e1⟩ := this; rw [← e1]; simp)
        rw [hp2] at hk1
        injection hk1 with _ hk1
        simp [Go.WideElems.rg, hk2, Go.intOf, hk1]
    rw [this]
  have hsize : Maps.size (DataW.map ((mes.toList.map (Go.WideElems.rg Try.prog 3 rNone)).foldr DataW.insert [])) ≤ 1000 := by
    show List.length _ ≤ 1000
    rw [hperm.length_eq, List.length_map, Array.length_toList]; omega
  refine (sorted_calls b0 b mes.size _ rNone w hbm hcell hown (Nat.le_trans hsize (by decide)) (by omega)).mono ?_
  rintro e w' ⟨v, ss, rfl, hss, hrw, _, hB⟩
  have hsort : ss.mergeSort (fun x y => decide (x ≤ y)) = es.map kOf := by
    have e1 := mergeSort_of_perm_i (hss.trans hik)
    have e2 : (es.map kOf).mergeSort leI = es.map kOf := by
      apply List.mergeSort_of_pairwise
      exact hp.imp (fun h => by simp [leI]; omega)
    exact e1.trans e2
  have hlen : ss.length = (sortedKeys es).length := by
    rw [(hss.trans hik).length_eq]; simp
  rw [hsort] at hrw
  obtain ⟨d1, d2, d3⟩   := Go.Am.newRow (κ := κ) (els := sortedKeys es) hrw hlen (fun x hx => by
      obtain ⟨p, _, rfl⟩ := List.mem_map.1 hx
      exact ⟨rfl, fun y hy => by simp [DV.cells] at hy; subst hy; rfl⟩) (fun i x j y u hx hy hu => by
      simp only [sortedKeys, List.getElem?_map, Option.map_eq_some_iff] at hx
      obtain ⟨p, hp1, rfl⟩ := hx
      cases j with
      | succ j => simp [DV.cells] at hy
      | zero =>
        simp [DV.cells] at hy; subst hy
        simp [hp1] at hu
        subst hu
        rfl) h2 hB.size
  have hM : Mono κ φ (tabOf [PObj.box T [RV.map 1], .map es]) w.heap (newImm κ v) φ (tabOf [PObj.box T [RV.map 1], .map es]) w'.heap := {
    imm := fun b hb => ⟨(d2 b (h2 b (by rw [hb]; simp))).trans hb, hB.block b (h2 b (by rw [hb]; simp))⟩
    shp := fun b c ty fz hc => by
      have hl : b < w.heap.size := by
        rcases Nat.lt_or_ge b w.heap.size with h' | h'
        · exact h'
        · rw [Array.getElem?_eq_none h'] at hc; simp at hc
      exact ⟨c, fz, (hB.block b hl).trans hc, rfl⟩
    phi := fun _ _ => rfl
    len := fun _ _ _ h => h }
  refine ⟨v, _, _, newImm κ v, φ, rfl, ⟨rfl, rfl⟩, .d d1, fun i => ?_, d3, Nat.le_refl _, ⟨hB.size, hM.imm, fun b hl hb => ⟨(d2 b hl).trans hb, hB.block b hl⟩, hM.shp, hB.os, hB.output⟩, Kp.refl _ _⟩
  exact (h1 i).mono hM (fun b hb => ⟨(d2 b (h2 b (by rw [hb]; simp))).trans hb, hB.block b (h2 b (by rw [hb]; simp))⟩) rfl
end Go.Proofs.Ytchmeldlpoimnaa
