/-
  slices.Sorted of maps.Keys, for the abstract machine, out of the shelf's contracts: of a map whose keys stand in order they come as they stand.
-/
import Derived.Test.YtadndmmhpkmjeaaGreatDoorNa
import Derived.Test.YtadndmmhpkmjeaaGreatDoorSortc
import Derived.Maps.Keyed
import Derived.Maps.Range

namespace Go.Proofs.YtadndmmhpkmjeaaGreatDoor
open Go.RowKit Am Go.Maps Go.Sort Go.Shelf
set_option maxRecDepth 100000
set_option linter.unusedVariables false

theorem sortsIn (m : Nat) : AnyZI.SortsIn Tryz.prog Tryz.sortedA_ren Fence.wide m :=
  ⟨fun blk off cap ss W hH hblk hsz => callsIn_wide.2 (AnyM.slices_Sort_int Tryz.sortA blk off cap ss W hH hblk hsz),
   fun p cap W => callsIn_wide.2 (AnyM.slices_Sort_int_none Tryz.sortA p cap W)⟩

theorem sorted_calls {H : Type} (Bm b nn : Nat) (D0 : DataW H) (R : Value → Option (DataW H × List MemPlace)) (w : World) (hBm : Bm < w.heap.size) (hm : w.cell? ⟨Bm, 0, none⟩ = some (.map (some b))) (hown : w.ownsMap Tryz.prog 3 R b nn D0) (hmax : Maps.size D0 ≤ maxLen) (hbytes : Maps.size D0 * 8 ≤ 140737488355328) :
    Calls Tryz.prog 188 #[.func (.func 294) #[] #[.pointer (some ⟨Bm, 0, none⟩)]] w fun e w' => ∃ (v : Value) (ss : List Int), e = .returned v ∧ ss.Perm (intKeys D0) ∧
      w'.ownsRow w.heap.size 3 1 v ss.length ((ss.mergeSort (fun x y => decide (x ≤ y))).map encZ) ∧ (v = .slice none 0 0 ↔ ss = []) ∧ Below w.heap.size w w' := by
  have hseq : SeqGives Fence.wide 2 Tryz.prog 294 #[.pointer (some ⟨Bm, 0, none⟩)] encZ (fun ss => ss.Perm (intKeys D0)) (Maps.size D0) w :=
    AnyZI.keys_gives (ρ := Tryz.keysA_ren) { Tryz.keysA with } Fence.wide _ trivial rfl (by omega) Bm b nn D0 _ hBm hm hown
  exact (callsIn_wide (n := 5)).1 (AnyZI.sorted_in Tryz.sortedA Fence.wide 5 trivial trivial trivial trivial rfl (by omega) (sortsIn _) (enters_of Tryz.func293 (by kernel_rfl) rfl) 294 #[.pointer (some ⟨Bm, 0, none⟩)] trivial (enters_of Tryz.func294 (by kernel_rfl) rfl) _ _ hmax hbytes _ hseq)

/-- The keys of rows, put in order. -/
def kOf : DV × DV → Int
  | (.int _ k, _) => k
  | _ => 0
def isKey : DV × DV → Bool
  | (.int .i64 _, _) => true
  | _ => false
def insI (x : Int) : List Int → List Int
  | [] => [x]
  | y :: r => if x ≤ y then x :: y :: r else y :: insI x r
def sortI : List Int → List Int
  | [] => []
  | x :: r => insI x (sortI r)
theorem insI_perm (x : Int) : ∀ l, (insI x l).Perm (x :: l)
  | [] => .refl _
  | y :: r => by
    unfold insI
    split
    · exact .refl _
    · exact ((insI_perm x r).cons y).trans (.swap _ _ _)
theorem sortI_perm : ∀ l, (sortI l).Perm l
  | [] => .refl _
  | x :: r => (insI_perm x _).trans ((sortI_perm r).cons x)
def kUp : List Int → Int → Bool
  | [], _ => true
  | k :: r, b => decide (b < k ∧ k ≤ 1000000) && kUp r k
theorem kUp_spec : ∀ {ks : List Int} {b : Int}, kUp ks b = true → (∀ k ∈ ks, b < k ∧ k ≤ 1000000) ∧ ks.Pairwise (· < ·)
  | [], _, _ => by simp
  | k :: r, b, h => by
    simp only [kUp, Bool.and_eq_true, decide_eq_true_eq] at h
    obtain ⟨h1, h2⟩ := kUp_spec h.2
    refine ⟨fun x hx => ?_, ?_⟩
    · rcases List.mem_cons.1 hx with rfl | hx
      · exact h.1
      · have := h1 x hx; exact ⟨by omega, this.2⟩
    · rw [List.pairwise_cons]
      exact ⟨fun x hx => (h1 x hx).1, h2⟩
theorem undK : Tryz.prog.underlying 3 = some (.int .i64) := by kernel_rfl
abbrev rNone : Value → Option (DataW Unit × List MemPlace) := fun _ => some (.nil, [])
abbrev sortedKeys (es : List (DV × DV)) : List DV := (sortI (es.map kOf)).map fun k => .int .i64 k
theorem sorted_c (es : List (DV × DV)) (T : Nat) (hl : es.length ≤ 1000) (hi : es.all isKey = true) (hu : kUp (sortI (es.map kOf)) (-1) = true) :
    C Tryz.prog 188 [.clo (.func 294) [] [.ptr 0 0]] [.box T [.map 1], .map es]
      (fun r o => r = .d (.lst 1 (sortedKeys es) false) ∧ o = [.box T [.map 1], .map es]) := by
  obtain ⟨hk0, hp⟩ := kUp_spec hu
  have hpm := sortI_perm (es.map kOf)
  have hk : ∀ p ∈ es, p.1 = .int .i64 (kOf p) ∧ -1 < kOf p ∧ kOf p ≤ 1000000 := fun p hp => by
    refine ⟨?_, hk0 (kOf p) (hpm.mem_iff.2 (List.mem_map.2 ⟨p, hp, rfl⟩))⟩
    have := List.all_eq_true.1 hi p hp
    obtain ⟨x, y⟩ := p
    cases x <;> simp [isKey] at this
    rename_i k n
    cases k <;> simp at this
    rfl
  intro κ φ w vs h1 h2 h3 h4
  -- the argument
  have hv : ∃ bm, vs = #[.func (.func 294) #[] #[.pointer (some ⟨bm, 0, none⟩)]] ∧ φ 0 = .at bm := by
    have hs : vs.size = 1 := by simpa using h3
    have := h4 0 _ vs[0] rfl (by simp [hs])
    generalize hx : vs[0] = x at this
    cases this with
    | clo hfl hcl hf hc =>
      rename_i f c
      have e1 : f = #[] := by apply Array.eq_empty_of_size_eq_zero; simpa using hfl
      have hcs : c.size = 1 := by simpa using hcl
      have := hc 0 (.ptr 0 0) c[0] rfl (by simp [hcs])
      generalize hy : c[0] = y at this
      cases this with
      | ptr hφ =>
        rename_i bm
        refine ⟨bm, ?_, hφ⟩
        apply Array.ext
        · simp [hs]
        · intro i hi hi2
          have : i = 0 := by simp at hi2; omega
          subst this
          rw [hx, e1]
          have : c = #[.pointer (some ⟨bm, 0, none⟩)] := by
            apply Array.ext
            · simp [hcs]
            · intro i hi hi2
              have : i = 0 := by simp at hi2; omega
              subst this
              rw [hy]; rfl
          rw [this]; rfl
  obtain ⟨bm, rfl, hφ0⟩ := hv
  have o0 := h1 0
  obtain ⟨b0, c, q1, q2, q3, q4, q5, q6⟩ := o0
  have hb0 : b0 = bm := by rw [q1] at hφ0; injection hφ0
  subst hb0
  have o1 := h1 1
  obtain ⟨b, mes, clock, g1, g2, g3, ⟨g4, gn⟩, g5⟩ := o1
  have hcs : c.size = 1 := by simpa using q4
  have hc0 : c[0]? = some (.map (some b)) := by
    have := q6 0 (.map 1) c[0] rfl (by simp [hcs])
    generalize hy : c[0] = y at this
    cases this with
    | map hφ =>
      rename_i b'
      have : b = b' := by rw [g1] at hφ; injection hφ
      subst this
      simp [hcs, hy]
  have hbm : b0 < w.heap.size := h2.lt b0 (by rw [q2]; simp)
  have hcell : w.cell? ⟨b0, 0, none⟩ = some (.map (some b)) := by
    simp only [World.cell?, q3]
    simpa using hc0
  -- the rows as the shelf reads them
  have hrow : ∀ (j : Nat) (e : MapEntry), mes[j]? = some e → ∃ p, es[j]? = some p ∧ e.key = .int .i64 (kOf p) ∧ e.born < clock := fun j e he => by
    have hj : j < mes.size := (Array.getElem?_eq_some_iff.1 he).1
    have hj2 : j < es.length := by omega
    refine ⟨es[j], by simp [hj2], ?_, (g5 j es[j] e (by simp [hj2]) he).2.2⟩
    have := (g5 j es[j] e (by simp [hj2]) he).1
    rw [(hk es[j] (List.getElem_mem hj2)).1] at this
    generalize e.key = x at this
    cases this
    rfl
  have hkeys : mes.toList.map (fun e => e.key) = es.map fun p => Value.int .i64 (kOf p) := by
    apply List.ext_getElem?
    intro j
    rw [List.getElem?_map, List.getElem?_map, Array.getElem?_toList]
    cases he : mes[j]? with
    | none =>
      have : es[j]? = none := by
        rw [List.getElem?_eq_none_iff]
        rw [Array.getElem?_eq_none_iff] at he
        omega
      rw [this]; rfl
    | some e =>
      obtain ⟨p, hp1, hp2, _⟩ := hrow j e he
      rw [hp1]; simp [hp2]
  have hnd : (es.map kOf).Nodup := hpm.nodup_iff.1 (hp.imp (fun h => by omega))
  have hwf : ∀ p ∈ es, (Lit.int .i64 (kOf p)).wf = true := fun p hp => by
    obtain ⟨_, q2, q3⟩ := hk p hp
    have e1 : IntKind.i64.min ≤ kOf p := Int.le_trans (by decide : IntKind.i64.min ≤ 0) (by omega)
    have e2 : kOf p ≤ IntKind.i64.max := Int.le_trans q3 (by decide)
    simp only [Lit.wf, e1, e2, decide_true, Bool.and_true]
  have hrd : ∀ x ∈ mes.toList, ∃ k : Int, x.key = .int .i64 k ∧ Go.WideElems.rd Tryz.prog 3 rNone x = some (.int .i64 k, .nil) := fun x hx => by
    obtain ⟨j, hj, he⟩ := List.mem_iff_getElem.1 hx
    obtain ⟨p, hp1, hp2, _⟩ := hrow j x (by rw [← he]; simp)
    refine ⟨kOf p, hp2, ?_⟩
    unfold Go.WideElems.rd
    rw [hp2, keyOf_int_mk undK (hwf p (List.mem_of_getElem? hp1))]
    rfl
  have hfit : Go.WideElems.Fit Tryz.prog 3 rNone mes clock := {
    size := by have : (1000 : Nat) ≤ maxLen := by decide
               omega
    stamped := ⟨fun x hx => by
      obtain ⟨j, hj, he⟩ := List.mem_iff_getElem.1 hx
      obtain ⟨p, _, _, hp3⟩ := hrow j x (by rw [← he]; simp)
      exact hp3, gn, by
        show (mes.toList.map (fun e => e.key)).Nodup
        rw [hkeys]
        have : (es.map fun p => Value.int .i64 (kOf p)) = (es.map kOf).map (Value.int .i64) := by simp
        rw [this]
        exact hnd.map _ (fun a b hne e => hne (by injection e))⟩
    reads := fun x hx => by obtain ⟨k, _, h⟩ := hrd x hx; exact ⟨_, h⟩ }
  have hown : w.ownsMap Tryz.prog 3 rNone b mes.size (.map ((mes.toList.map (Go.WideElems.rg Tryz.prog 3 rNone)).foldr DataW.insert [])) :=
    ⟨mes, clock, g3, hfit, Nat.le_refl _, rfl⟩
  have hperm := Go.WideShapes.sorted_perm (mes.toList.map (Go.WideElems.rg Tryz.prog 3 rNone))
  have hik : (intKeys (DataW.map ((mes.toList.map (Go.WideElems.rg Tryz.prog 3 rNone)).foldr DataW.insert []))).Perm (es.map kOf) := by
    refine (hperm.map (fun p => Go.intOf p.1)).trans ?_
    rw [List.map_map]
    have : (mes.toList.map ((fun p : Lit × DataW Unit => Go.intOf p.1) ∘ Go.WideElems.rg Tryz.prog 3 rNone)) = es.map kOf := by
      apply List.ext_getElem?
      intro j
      rw [List.getElem?_map, List.getElem?_map, Array.getElem?_toList]
      cases he : mes[j]? with
      | none =>
        have : es[j]? = none := by
          rw [List.getElem?_eq_none_iff]
          rw [Array.getElem?_eq_none_iff] at he
          omega
        rw [this]; rfl
      | some e =>
        obtain ⟨p, hp1, hp2, _⟩ := hrow j e he
        rw [hp1]
        obtain ⟨k, hk1, hk2⟩ := hrd e (by have := Array.getElem?_eq_some_iff.1 he; obtain ⟨hj, e1⟩ := this; rw [← e1]; simp)
        rw [hp2] at hk1
        injection hk1 with _ hk1
        simp [Go.WideElems.rg, hk2, Go.intOf, hk1]
    rw [this]
  have hsize : Maps.size (DataW.map ((mes.toList.map (Go.WideElems.rg Tryz.prog 3 rNone)).foldr DataW.insert [])) ≤ 1000 := by
    show List.length _ ≤ 1000
    rw [hperm.length_eq, List.length_map, Array.length_toList]; omega
  refine (sorted_calls b0 b mes.size _ rNone w hbm hcell hown (Nat.le_trans hsize (by decide)) (by omega)).mono ?_
  rintro e w' ⟨v, ss, rfl, hss, hrw, _, hB⟩
  have hsort : ss.mergeSort (fun x y => decide (x ≤ y)) = sortI (es.map kOf) := by
    have e1 := mergeSort_of_perm_i (hss.trans hik)
    have e2 : (es.map kOf).mergeSort leI = sortI (es.map kOf) := by
      rw [← mergeSort_of_perm_i hpm]
      apply List.mergeSort_of_pairwise
      exact hp.imp (fun h => by simp [leI]; omega)
    exact e1.trans e2
  have hlen : ss.length = (sortedKeys es).length := by
    rw [(hss.trans hik).length_eq]; simp [hpm.length_eq]
  rw [hsort] at hrw
  obtain ⟨d1, d2, d3⟩   := Go.Am.newRow (κ := κ) (els := sortedKeys es) hrw hlen (fun x hx => by
      obtain ⟨p, _, rfl⟩ := List.mem_map.1 hx
      exact ⟨rfl, fun y hy => by simp [DV.cells] at hy; subst hy; rfl⟩) (fun i x j y u hx hy hu => by
      simp only [sortedKeys, List.getElem?_map, Option.map_eq_some_iff] at hx
      obtain ⟨p, hp1, rfl⟩ := hx
      cases j with
      | succ j => simp [DV.cells] at hy
      | zero =>
        simp [DV.cells] at hy; subst hy
        simp [hp1] at hu
        subst hu
        rfl) h2.lt hB.size
  have hM : Mono κ φ (tabOf [PObj.box T [RV.map 1], .map es]) w.heap (newImm κ v) φ (tabOf [PObj.box T [RV.map 1], .map es]) w'.heap := {
    imm := fun b hb => ⟨(d2 b (h2.lt b (by rw [hb]; simp))).trans hb, hB.block b (h2.lt b (by rw [hb]; simp))⟩
    shp := fun b c ty fz hc => by
      have hl : b < w.heap.size := by
        rcases Nat.lt_or_ge b w.heap.size with h' | h'
        · exact h'
        · rw [Array.getElem?_eq_none h'] at hc; simp at hc
      exact ⟨c, fz, (hB.block b hl).trans hc, rfl⟩
    phi := fun _ _ => rfl
    len := fun _ _ _ h => h }
  refine ⟨v, _, _, newImm κ v, φ, rfl, ⟨rfl, rfl⟩, .d d1, fun i => ?_, h2.step ⟨hB.size, hM.imm, fun b hl hb => ⟨(d2 b hl).trans hb, hB.block b hl⟩, hM.shp, hB.os, hB.output⟩ d3, Nat.le_refl _, ⟨hB.size, hM.imm, fun b hl hb => ⟨(d2 b hl).trans hb, hB.block b hl⟩, hM.shp, hB.os, hB.output⟩, Kp.refl _ _⟩
  exact (h1 i).mono hM (fun b hb => ⟨(d2 b (h2.lt b (by rw [hb]; simp))).trans hb, hB.block b (h2.lt b (by rw [hb]; simp))⟩) rfl

def sortE : Ent := fun a o => match a, o with
  | [.clo (.func f) [] [.ptr 0 0]], [.box T [.map 1], .map es] =>
    bif Nat.beq f 294 && Nat.ble es.length 1000 && es.all isKey && kUp (sortI (es.map kOf)) (-1) then some (.d (.lst 1 (sortedKeys es) false), [.box T [.map 1], .map es], []) else none
  | _, _ => none
theorem sort_ent : EntOk Tryz.prog 188 sortE := by
  intro a o r o' c hg _
  unfold sortE at hg
  split at hg
  · rename_i f T es
    cases hb : (Nat.beq f 294 && Nat.ble es.length 1000 && es.all isKey && kUp (sortI (es.map kOf)) (-1)) with
    | false => rw [hb] at hg; cases hg
    | true =>
      rw [hb] at hg; simp only [cond_true, Option.some.injEq, Prod.mk.injEq] at hg
      obtain ⟨rfl, rfl, rfl⟩ := hg
      simp only [Bool.and_eq_true] at hb
      have := nbE hb.1.1.1; subst this
      exact sorted_c es T (Nat.le_of_ble_eq_true hb.1.1.2) hb.1.2 hb.2
  · cases hg
end Go.Proofs.YtadndmmhpkmjeaaGreatDoor
