/-
  slices.Insert at the program's rows of structs: the walk of Go's own text, and the contract.
-/
import Derived.Test.YtadndmmhpkmjeaaGreatDoorAmE
import Derived.Test.YtadndmmhpkmjeaaGreatDoorNa
import Derived.Shelf.Spec.SlicesInsertGrow

namespace Go.Proofs.YtadndmmhpkmjeaaGreatDoor
open Go.RowKit Am Go.Lib
set_option maxRecDepth 100000

theorem shape_of_heap {w : World} {b : Nat} {C : Array Value} {T : TypeId} {fz : Nat × Nat} (h : w.heap[b]? = some (.cells C T fz)) : w.shape? b = some (T, C.size) := by
  unfold World.shape?; rw [h]
theorem push_row (w : World) (o o' : Obj) : (World.row (w.alloc o) w.heap.size o').heap = w.heap.push o' := by
  simp only [World.row, World.alloc]
  apply Array.ext'
  simp [Array.toList_push, Array.toList_setIfInBounds]
theorem size_zc' (z : Array Value) (n : Nat) : (Builtin.zeroCells z n).size = n * z.size := by simp [Builtin.zeroCells]
theorem frozen_of_fz {w : World} {b o : Nat} {C : Array Value} {T : TypeId} {fz : Nat × Nat} (h : w.heap[b]? = some (.cells C T fz)) (hf : ¬ (fz.1 ≤ o ∧ o < fz.2)) : w.frozen? ⟨b, o, none⟩ = false := by
  unfold World.frozen?; rw [h]
  obtain ⟨lo, hi⟩ := fz
  simp only [Bool.and_eq_false_iff, decide_eq_false_iff_not]
  simp only at hf
  omega

theorem undInsCell : (Env.of Tryz.prog).und 503 = some (.slice 511) := by kernel_rfl
theorem sizeInsCell : (Env.of Tryz.prog).size 511 = some 4 := by kernel_rfl
theorem infoInsCell : ∃ i z, Tryz.prog.info? 511 = some i ∧ i.zero = some z ∧ i.size = 4 ∧ i.bytes = 48 ∧ z.cells.size = 4 := by
  have h : (Tryz.prog.info? 511).bind (fun i => i.zero.map fun z => (Nat.beq i.size 4 && Nat.beq i.bytes 48 && Nat.beq z.cells.size 4)) = some true := by kernel_rfl
  cases hi : Tryz.prog.info? 511 with
  | none => rw [hi] at h; cases h
  | some i =>
    rw [hi] at h
    cases hz : i.zero with
    | none => simp [hz] at h
    | some z =>
      simp only [Option.bind_some, hz, Option.map_some, Option.some.injEq, Bool.and_eq_true] at h
      exact ⟨i, z, rfl, hz, nbE h.1.1, nbE h.1.2, nbE h.2⟩

set_option maxHeartbeats 4000000 in
theorem insRoomCell (b n c i vb m vc : Nat) (C1 C2 : Array Value) (fz1 fz2 : Nat × Nat) (w : World) (hi : i < n) (hm : 1 ≤ m) (hroom : n + m ≤ c) (hbig : (n + m) * 48 ≤ 274877906944) (hcs : c * 4 ≤ C1.size) (hvs : m * 4 ≤ C2.size) (hvb : vb ≠ b)
    (hb : w.heap[b]? = some (.cells C1 511 fz1)) (hf1 : FzOk fz1 C1.size) (hv : w.heap[vb]? = some (.cells C2 511 fz2)) (hf2 : FzOk fz2 C2.size) (hf3 : fz2.2 ≤ C2.size)
    (h1c : ∀ (j : Nat) (v : Value), j < n * 4 → C1[j]? = some v → v.oneCell = true) (h1v : ∀ (j : Nat) (v : Value), j < m * 4 → C2[j]? = some v → v.oneCell = true) :
    Calls Tryz.prog 517 #[.slice (some ⟨b, 0, none⟩) n c, .int .i64 i, .slice (some ⟨vb, 0, none⟩) m vc] w fun x w' =>
      x = .returned (.slice (some ⟨b, 0, none⟩) (n + m) c) ∧
      w' = World.row (World.row w.drew b (.cells (splA C1 ((i + m) * 4) (C1.extract (i * 4) (i * 4 + (n - i) * 4)).toList) 511 fz1)) b
        (.cells (splA (splA C1 ((i + m) * 4) (C1.extract (i * 4) (i * 4 + (n - i) * 4)).toList) (i * 4) (C2.extract 0 (0 + m * 4)).toList) 511 fz1) := by
  have hz1 : ¬ ((m : Int) = 0) := by omega
  have hz2 : ¬ ((i : Int) = (n : Int)) := by omega
  have hov : ∀ lb cb, (callFunc 550 #[.slice (some ⟨vb, 0, none⟩) m vc, .slice (some ⟨b, (i + m) * 4, none⟩) lb cb]).run Tryz.prog w = .ok (.value (.bool false)) w := fun lb cb => by
    rw [run_callFunc_extern Tryz.func550 (by kernel_rfl) (by kernel_rfl) (by kernel_rfl) (e := Extern.SlicesOverlaps.overlaps #[503, 503] #[4]) (by kernel_rfl),
      Lib.run_overlaps_apart w 503 4 511 Tryz.underlying503 4 (run_sizeOf' sizeInsCell) ⟨vb, 0, none⟩ ⟨b, (i + m) * 4, none⟩ m vc lb cb hvb 511 511 C2.size C1.size (shape_of_heap hv) (shape_of_heap hb) (by omega)
        (frozen_of_fz hv (hf2 0 (by omega))) (frozen_of_fz hv (by omega))]
    rfl
  obtain ⟨C', hC'⟩ : ∃ C', C' = splA C1 ((i + m) * 4) (C1.extract (i * 4) (i * 4 + (n - i) * 4)).toList := ⟨_, rfl⟩
  have hexl : (C1.extract (i * 4) (i * 4 + (n - i) * 4)).toList.length = (n - i) * 4 := by simp; omega
  have hC's : C'.size = C1.size := by rw [hC']; exact splA_size _ _ _ (by omega)
  have hcp1 : ∀ ty dc sc, (Builtin.copy_ #[503, 503] ty #[.slice (some ⟨b, (i + m) * 4, none⟩) (n + m - (i + m)) dc, .slice (some ⟨b, i * 4, none⟩) (n + m - i) sc]).run Tryz.prog w.drew = .ok (goInt ((n - i : Nat) : Int)) (World.row w.drew b (.cells C' 511 fz1)) := fun ty dc sc => by
    rw [hC']
    exact run_copyB undInsCell sizeInsCell (w := w.drew) hb hf1 hb (by simp only [Nat.min_def]; split <;> omega) (by omega) (by omega) (fun j v hj hv => h1c _ v (by omega) hv)
  obtain ⟨C'', hC''⟩ : ∃ C'', C'' = splA C' (i * 4) (C2.extract 0 (0 + m * 4)).toList := ⟨_, rfl⟩
  have hcp2 : ∀ (W : World), W = World.row w.drew b (.cells C' 511 fz1) → ∀ ty dc, (Builtin.copy_ #[503, 503] ty #[.slice (some ⟨b, i * 4, none⟩) (n + m - i) dc, .slice (some ⟨vb, 0, none⟩) m vc]).run Tryz.prog W = .ok (goInt (m : Int)) (World.row W b (.cells C'' 511 fz1)) := fun W hW ty dc => by
    rw [hC'']
    subst hW
    exact run_copyB undInsCell sizeInsCell (row_heap (w := w.drew) hb) (by rw [hC's]; exact hf1) ((row_heap_ne w.drew _ hvb).trans hv) (by simp only [Nat.min_def]; split <;> omega) (by omega) (by omega) (fun j v hj hv => h1v _ v (by omega) (by simpa using hv))
  rw [← hC', ← hC'']
  have mixed : Tryz.prog.follows .mixedOrders = true := by kernel_rfl
  have hw1 : IntKind.i64.wrap ((i : Int) + (m : Int)) = (i : Int) + (m : Int) := by rw [IntKind.wrap_i64]; omega
  have hw2 : IntKind.i64.wrap ((n : Int) + (m : Int)) = (n : Int) + (m : Int) := by rw [IntKind.wrap_i64]; omega
  have hb1 : (0 : Int) ≤ (i : Int) + (m : Int) := by omega
  have hb5 : (0 : Int) ≤ (n : Int) + (m : Int) := by omega
  have hin : i ≤ n := by omega
  have htn : ((i : Int) + (m : Int)).toNat = i + m := by omega
  have htn2 : ((n : Int) + (m : Int)).toNat = n + m := by omega
  have hb2 : ¬ (c = i + m) := by omega
  have hb3 : (i : Int) ≤ (n : Int) + (m : Int) := by omega
  have hb4 : ¬ (c = i) := by omega
  clear hexl hC's hC' hC'' h1c h1v hf1 hf2 hf3 hb hv hcs hvs hbig
  go_enter Tryz.func517, Tryz.ntmps517
  go_wp2_with (simp only [hov])
  go_region_law_o (refine step_copy_runI rfl _ _ 503 503 rfl _ _ (by simp [Act.eval, Act.put]) (by simp [Act.eval, Act.put]) (hcp1 _ _ _) ?_)
  go_wp2_with (at_builtin; refine wpList_copy_runI _ rfl _ _ 503 503 rfl _ _ rfl rfl (hcp2 _ rfl _ _) ?_)
  go_ret
  exact ⟨rfl, rfl⟩

set_option maxHeartbeats 4000000 in
theorem insGrowCell (b n c i vb m vc : Nat) (C1 C2 : Array Value) (fz1 fz2 : Nat × Nat) (w : World) (hi : i < n) (hm : 1 ≤ m) (hnc : n ≤ c) (hroom : c < n + m) (hbig : (n + m) * 48 ≤ 274877906944) (hcs : c * 4 ≤ C1.size) (hvs : m * 4 ≤ C2.size)
    (hb : w.heap[b]? = some (.cells C1 511 fz1)) (hv : w.heap[vb]? = some (.cells C2 511 fz2))
    (h1c : ∀ (j : Nat) (v : Value), j < n * 4 → C1[j]? = some v → v.oneCell = true) (h1v : ∀ (j : Nat) (v : Value), j < m * 4 → C2[j]? = some v → v.oneCell = true) (Q : Value → World → Prop)
    (hQ : ∀ (G : Nat) (R : Array Value) (w' : World), n + m ≤ G → R.size = G * 4 → (∀ j, j < i * 4 → R[j]? = C1[j]?) →
      w'.heap = (World.row (World.row (w.alloc (.cells R 511)) w.heap.size (.cells (splA R (i * 4) (C2.extract 0 (0 + m * 4)).toList) 511 (0, 0))) w.heap.size
        (.cells (splA (splA R (i * 4) (C2.extract 0 (0 + m * 4)).toList) ((i + m) * 4) (C1.extract (i * 4) (i * 4 + (n - i) * 4)).toList) 511 (0, 0))).heap → w'.os = w.os → w'.output = w.output →
      Q (.slice (some ⟨w.heap.size, 0, none⟩) (n + m) G) w') :
    Calls Tryz.prog 517 #[.slice (some ⟨b, 0, none⟩) n c, .int .i64 i, .slice (some ⟨vb, 0, none⟩) m vc] w fun x w' => ∃ v, x = .returned v ∧ Q v w' := by
  obtain ⟨i0, z, hi0, hz0, hzs, hzb, hzc⟩ := infoInsCell
  have hz1 : ¬ ((m : Int) = 0) := by omega
  have hz2 : ¬ ((i : Int) = (n : Int)) := by omega
  have hz3 : (c : Int) < (n : Int) + (m : Int) := by omega
  have hbw : b < w.heap.size := (Array.getElem?_eq_some_iff.1 hb).1
  have hvw : vb < w.heap.size := (Array.getElem?_eq_some_iff.1 hv).1
  have hkk : (n : Int) + (m : Int) - (i : Int) = ((n + m - i : Nat) : Int) := by omega
  have hik : i + (n + m - i) = n + m := by omega
  have hold : (Builtin.firstCells i0.size i (.slice (some ⟨b, 0, none⟩) i c)).run Tryz.prog w.drew = .ok (C1.extract 0 (0 + i * 4)).toList.toArray w.drew := by
    rw [hzs]
    simp only [Builtin.firstCells]
    exact run_loadCells_at (w := w.drew) hb (by omega)
  have hrz : ∀ ty, (Builtin.append_ #[503, 3] ty #[.slice (some ⟨b, 0, none⟩) i c, .int .i64 ((n : Int) + (m : Int) - (i : Int))]).run Tryz.prog w =
      .ok (.slice (some ⟨w.heap.size, 0, none⟩) (n + m) (grownCap w (n + m) c 511)) (w.drew.alloc (.cells ((C1.extract 0 (0 + i * 4)).toList.toArray ++ Builtin.zeroCells z.cells (n + m - i) ++ Builtin.zeroCells z.cells (grownCap w (n + m) c 511 - (n + m))) 511)) := fun ty => by
    have h := Lib.run_append_grow_zeros w 503 3 ty 511 i0 z .i64 .i64 Tryz.underlying503 Tryz.underlying3 hi0 hz0 (some ⟨b, 0, none⟩) i c (C1.extract 0 (0 + i * 4)).toList hold (n + m - i) (by omega) (by omega) (by omega) (by omega) (by rw [hzb]; omega) (by rw [hzb, hik]; exact growslice_fits hroom (by omega))
    rw [hik] at h
    rw [hkk]
    exact h
  have hGn : n + m ≤ grownCap w (n + m) c 511 := grownCap_ge w _ _ _
  have hG63 : grownCap w (n + m) c 511 ≤ 9223372036854775807 := by
    have := grownCap_le_maxLen w (n + m) c 511 (by unfold maxLen; omega)
    unfold maxLen at this
    omega
  obtain ⟨G, hG⟩ : ∃ G, G = grownCap w (n + m) c 511 := ⟨_, rfl⟩
  rw [← hG] at hrz hGn hG63
  obtain ⟨R, hR⟩ : ∃ R : Array Value, R = (C1.extract 0 (0 + i * 4)).toList.toArray ++ Builtin.zeroCells z.cells (n + m - i) ++ Builtin.zeroCells z.cells (G - (n + m)) := ⟨_, rfl⟩
  rw [← hR] at hrz
  have hRs : R.size = G * 4 := by
    rw [hR]
    simp only [Array.size_append, size_zc', Array.toArray_toList, Array.size_extract, hzc]
    omega
  have hRl : ∀ j, j < i * 4 → R[j]? = C1[j]? := fun j hj => by
    rw [hR, Array.append_assoc, Array.getElem?_append_left (by simp; omega)]
    simp only [Array.toArray_toList, Array.getElem?_extract]
    rw [if_pos (by omega), Nat.zero_add]
  obtain ⟨R2, hR2⟩ : ∃ R2, R2 = splA R (i * 4) (C2.extract 0 (0 + m * 4)).toList := ⟨_, rfl⟩
  have hxl : (C2.extract 0 (0 + m * 4)).toList.length = m * 4 := by simp; omega
  have hR2s : R2.size = R.size := by rw [hR2]; exact splA_size _ _ _ (by omega)
  obtain ⟨R3, hR3⟩ : ∃ R3, R3 = splA R2 ((i + m) * 4) (C1.extract (i * 4) (i * 4 + (n - i) * 4)).toList := ⟨_, rfl⟩
  have hp : (w.alloc (.cells R 511)).heap[w.heap.size]? = some (.cells R 511 (0, 0)) := heap_push_eq _ _
  have hcpA : ∀ (W : World), W.heap = (w.alloc (.cells R 511)).heap → ∀ ty dc, (Builtin.copy_ #[503, 503] ty #[.slice (some ⟨w.heap.size, i * 4, none⟩) (n + m - i) dc, .slice (some ⟨vb, 0, none⟩) m vc]).run Tryz.prog W = .ok (goInt (m : Int)) (World.row W w.heap.size (.cells R2 511 (0, 0))) := fun W hW ty dc => by
    rw [hR2]
    exact run_copyB undInsCell sizeInsCell (by rw [hW]; exact hp) (fzOk00 _) (by rw [hW]; exact (Lib.alloc_old w _ vb hvw).trans hv) (by simp only [Nat.min_def]; split <;> omega) (by omega) (by omega) (fun j v hj hv => h1v _ v (by omega) (by simpa using hv))
  have hcpB : ∀ (W : World), W.heap = (World.row (w.alloc (.cells R 511)) w.heap.size (.cells R2 511 (0, 0))).heap → ∀ ty dc sc, (Builtin.copy_ #[503, 503] ty #[.slice (some ⟨w.heap.size, (i + m) * 4, none⟩) (n + m - (i + m)) dc, .slice (some ⟨b, i * 4, none⟩) (n - i) sc]).run Tryz.prog W = .ok (goInt ((n - i : Nat) : Int)) (World.row W w.heap.size (.cells R3 511 (0, 0))) := fun W hW ty dc sc => by
    rw [hR3]
    exact run_copyB undInsCell sizeInsCell (by rw [hW]; exact row_heap hp) (fzOk00 _) (by rw [hW, row_heap_ne _ _ (by omega)]; exact (Lib.alloc_old w _ b hbw).trans hb) (by simp only [Nat.min_def]; split <;> omega) (by omega) (by omega) (fun j v hj hv => h1c _ v (by omega) hv)
  have HQ := Lib.hid (fun w' h => hQ G R w' hGn hRs hRl h)
  rw [← hR2, ← hR3] at HQ
  have mixed : Tryz.prog.follows .mixedOrders = true := by kernel_rfl
  have hGi : ¬ (G = i) := by omega
  have hGim : ¬ (G = i + m) := by omega
  have hci : ¬ (c = i) := by omega
  have hbN : b ≠ w.heap.size := by omega
  have hw1 : IntKind.i64.wrap ((i : Int) + (m : Int)) = (i : Int) + (m : Int) := by rw [IntKind.wrap_i64]; omega
  have hw2 : IntKind.i64.wrap ((n : Int) + (m : Int)) = (n : Int) + (m : Int) := by rw [IntKind.wrap_i64]; omega
  have hw3 : IntKind.i64.wrap ((n : Int) + (m : Int) - (i : Int)) = (n : Int) + (m : Int) - (i : Int) := by rw [IntKind.wrap_i64]; omega
  have hb1 : (0 : Int) ≤ (i : Int) + (m : Int) := by omega
  have hin : i ≤ n := by omega
  have htn : ((i : Int) + (m : Int)).toNat = i + m := by omega
  have hb3 : (i : Int) ≤ (n : Int) := by omega
  have hb6 : (i : Int) + (m : Int) ≤ (n : Int) + (m : Int) := by omega
  clear hkk hik hold hR hRl hRs hR2 hR3 hR2s hp hxl hQ hG h1c h1v hb hv hcs hvs hbig hG63 hz0 hi0 hzs hzb hzc
  go_enter Tryz.func517, Tryz.ntmps517
  go_wp2_with (at_builtin; refine Lib.wpList_append_run _ rfl _ _ _ _ rfl _ _ rfl rfl _ _ (hrz _) ?_)
  rw [hcpA (w.alloc (.cells R 511)).drew rfl]
  simp only [Result.andThen]
  rw [Oper.upon_value]
  go_wp2
  go_region_law_o (refine step_copy_runI rfl _ _ 503 503 rfl (.slice (some ⟨w.heap.size, (i + m) * 4, none⟩) (n + m - (i + m)) (G - (i + m))) (.slice (some ⟨b, i * 4, none⟩) (n - i) (c - i)) (by simp [Act.eval, Act.put]) (by simp [Act.eval, Act.put]) (hcpB (World.row (w.alloc (.cells R 511)).drew w.heap.size (.cells R2 511 (0, 0))).drew rfl 3 (G - (i + m)) (c - i)) ?_)
  go_wp2
  go_ret
  exact ⟨_, rfl, HQ.out _ rfl rfl rfl⟩

theorem ins_callsCell : InsCalls Tryz.prog 517 511 4 48 := by
  intro b n c i vb m vc C1 C2 fz1 fz2 w hi hm hnc hcs hvs hvb hb hf1 hv hf2 hf3 h1c h1v hbig
  have hbig : (n + m) * 48 ≤ 274877906944 := hbig
  have hx1 : (C1.extract (i * 4) (i * 4 + (n - i) * 4)).toList.length = (n - i) * 4 := by simp; omega
  have hx2 : (C2.extract 0 (0 + m * 4)).toList.length = m * 4 := by simp; omega
  have g1 : ∀ j, j < (n - i) * 4 → (C1.extract (i * 4) (i * 4 + (n - i) * 4)).toList[j]? = C1[i * 4 + j]? := fun j hj => by
    rw [Array.getElem?_toList, Array.getElem?_extract, if_pos (by omega)]
  have g2 : ∀ j, j < m * 4 → (C2.extract 0 (0 + m * 4)).toList[j]? = C2[j]? := fun j hj => by
    rw [Array.getElem?_toList, Array.getElem?_extract, if_pos (by omega), Nat.zero_add]
  by_cases hroom : n + m ≤ c
  · refine (insRoomCell b n c i vb m vc C1 C2 fz1 fz2 w hi hm hroom hbig hcs hvs hvb hb hf1 hv hf2 hf3 h1c h1v).mono ?_
    rintro x w' ⟨rfl, rfl⟩
    have s1 : (splA C1 ((i + m) * 4) (C1.extract (i * 4) (i * 4 + (n - i) * 4)).toList).size = C1.size := splA_size _ _ _ (by omega)
    have s2 : (splA (splA C1 ((i + m) * 4) (C1.extract (i * 4) (i * 4 + (n - i) * 4)).toList) (i * 4) (C2.extract 0 (0 + m * 4)).toList).size = C1.size := by rw [splA_size _ _ _ (by omega), s1]
    refine ⟨b, c, _, rfl, hroom, by rw [s2]; exact hcs, .inl ⟨rfl, s2, by rw [row_row]; rfl⟩, rfl, rfl, fun j hj => ?_, fun j hj => ?_, fun j hj => ?_⟩
    · rw [splA_get _ _ _ (by omega), if_pos hj, splA_get _ _ _ (by omega), if_pos (by omega)]
    · rw [splA_get _ _ _ (by omega), if_neg (by omega), if_pos (by omega), Nat.add_sub_cancel_left, g2 j hj]
    · rw [splA_get _ _ _ (by omega), if_neg (by omega), if_neg (by omega), splA_get _ _ _ (by omega), if_neg (by omega), if_pos (by omega), show i * 4 + m * 4 + j - (i + m) * 4 = j by omega, g1 j hj]
  · refine (insGrowCell b n c i vb m vc C1 C2 fz1 fz2 w hi hm hnc (by omega) hbig hcs hvs hb hv h1c h1v (fun v w' => ∃ (b' c' : Nat) (C' : Array Value), v = .slice (some ⟨b', 0, none⟩) (n + m) c' ∧ n + m ≤ c' ∧ c' * 4 ≤ C'.size ∧
        ((b' = b ∧ C'.size = C1.size ∧ w'.heap = (World.row w b (.cells C' 511 fz1)).heap) ∨ (b' = w.heap.size ∧ w'.heap = w.heap.push (.cells C' 511 (0, 0)))) ∧ w'.os = w.os ∧ w'.output = w.output ∧
        (∀ j, j < i * 4 → C'[j]? = C1[j]?) ∧ (∀ j, j < m * 4 → C'[i * 4 + j]? = C2[j]?) ∧ (∀ j, j < (n - i) * 4 → C'[i * 4 + m * 4 + j]? = C1[i * 4 + j]?)) ?_).mono ?_
    · intro G R w' hG hR hRl hh hos hout
      have s1 : (splA R (i * 4) (C2.extract 0 (0 + m * 4)).toList).size = R.size := splA_size _ _ _ (by omega)
      have s2 : (splA (splA R (i * 4) (C2.extract 0 (0 + m * 4)).toList) ((i + m) * 4) (C1.extract (i * 4) (i * 4 + (n - i) * 4)).toList).size = R.size := by rw [splA_size _ _ _ (by omega), s1]
      refine ⟨w.heap.size, G, _, rfl, hG, by rw [s2, hR]; exact Nat.le_refl _, .inr ⟨rfl, by rw [hh, row_row]; exact push_row w _ _⟩, hos, hout, fun j hj => ?_, fun j hj => ?_, fun j hj => ?_⟩
      · rw [splA_get _ _ _ (by omega), if_pos (by omega), splA_get _ _ _ (by omega), if_pos hj, hRl j hj]
      · rw [splA_get _ _ _ (by omega), if_pos (by omega), splA_get _ _ _ (by omega), if_neg (by omega), if_pos (by omega), Nat.add_sub_cancel_left, g2 j hj]
      · rw [splA_get _ _ _ (by omega), if_neg (by omega), if_pos (by omega), show i * 4 + m * 4 + j - (i + m) * 4 = j by omega, g1 j hj]
    · rintro x w' ⟨v, rfl, b', c', C', rfl, h⟩
      exact ⟨b', c', C', rfl, h⟩

theorem mkCell : Gl.mark 511 = false := by kernel_rfl
def insECell : Ent := fun a o => match a, o with
  | [.sl 0 sz 0 n none, .d (.int .i64 i), .sl 1 sz2 0 m _], .rar e cs :: .rar e2 cs2 :: r =>
    bif Nat.beq sz 4 && Nat.beq sz2 4 && Nat.beq e 511 && Nat.beq e2 511 && Nat.blt i.toNat n && Nat.ble 1 m && Nat.ble (n * 4) cs.length && Nat.ble (m * 4) cs2.length && Nat.ble (n + m) 1000000 then
      some (.sl (r.length + 2) 4 0 (n + m) none, .gone :: .rar 511 cs2 :: r ++ [.rar 511 (cs.take (i.toNat * 4) ++ cs2.take (m * 4) ++ (cs.drop (i.toNat * 4)).take ((n - i.toNat) * 4))], [decide (0 ≤ i)]) else none
  | _, _ => none
theorem ins_entCell : EntOk Tryz.prog 517 insECell := by
  intro a o r o' c hg hc
  unfold insECell at hg
  split at hg
  · rename_i sz n i sz2 m k e cs e2 cs2 rr
    rw [cond_eq_ite] at hg
    split at hg <;> rename_i hcond
    · simp only [Option.some.injEq, Prod.mk.injEq] at hg
      obtain ⟨rfl, rfl, rfl⟩ := hg
      simp only [Bool.and_eq_true] at hcond
      obtain ⟨⟨⟨⟨⟨⟨⟨⟨k1, k2⟩, k3⟩, k4⟩, k5⟩, k6⟩, k7⟩, k8⟩, k9⟩ := hcond
      have := nbE k1; subst this
      have := nbE k2; subst this
      have := nbE k3; subst this
      have := nbE k4; subst this
      have k5 : i.toNat < n := Nat.le_of_ble_eq_true k5
      have k6 := Nat.le_of_ble_eq_true k6
      have k7 := Nat.le_of_ble_eq_true k7
      have k8 := Nat.le_of_ble_eq_true k8
      have k9 := Nat.le_of_ble_eq_true k9
      have h0 : 0 ≤ i := by simpa using hc (decide (0 ≤ i)) (by simp)
      have := ins_c (k := k) (cs := cs) (cs2 := cs2) (r := rr) ins_callsCell mkCell k5 k6 k7 k8 (by show (n + m) * 48 ≤ 274877906944; omega)
      rw [Int.toNat_of_nonneg h0] at this
      exact this
    · cases hg
  · cases hg

theorem undInsTable : (Env.of Tryz.prog).und 161 = some (.slice 174) := by kernel_rfl
theorem sizeInsTable : (Env.of Tryz.prog).size 174 = some 4 := by kernel_rfl
theorem infoInsTable : ∃ i z, Tryz.prog.info? 174 = some i ∧ i.zero = some z ∧ i.size = 4 ∧ i.bytes = 88 ∧ z.cells.size = 4 := by
  have h : (Tryz.prog.info? 174).bind (fun i => i.zero.map fun z => (Nat.beq i.size 4 && Nat.beq i.bytes 88 && Nat.beq z.cells.size 4)) = some true := by kernel_rfl
  cases hi : Tryz.prog.info? 174 with
  | none => rw [hi] at h; cases h
  | some i =>
    rw [hi] at h
    cases hz : i.zero with
    | none => simp [hz] at h
    | some z =>
      simp only [Option.bind_some, hz, Option.map_some, Option.some.injEq, Bool.and_eq_true] at h
      exact ⟨i, z, rfl, hz, nbE h.1.1, nbE h.1.2, nbE h.2⟩

set_option maxHeartbeats 4000000 in
theorem insRoomTable (b n c i vb m vc : Nat) (C1 C2 : Array Value) (fz1 fz2 : Nat × Nat) (w : World) (hi : i < n) (hm : 1 ≤ m) (hroom : n + m ≤ c) (hbig : (n + m) * 88 ≤ 274877906944) (hcs : c * 4 ≤ C1.size) (hvs : m * 4 ≤ C2.size) (hvb : vb ≠ b)
    (hb : w.heap[b]? = some (.cells C1 174 fz1)) (hf1 : FzOk fz1 C1.size) (hv : w.heap[vb]? = some (.cells C2 174 fz2)) (hf2 : FzOk fz2 C2.size) (hf3 : fz2.2 ≤ C2.size)
    (h1c : ∀ (j : Nat) (v : Value), j < n * 4 → C1[j]? = some v → v.oneCell = true) (h1v : ∀ (j : Nat) (v : Value), j < m * 4 → C2[j]? = some v → v.oneCell = true) :
    Calls Tryz.prog 200 #[.slice (some ⟨b, 0, none⟩) n c, .int .i64 i, .slice (some ⟨vb, 0, none⟩) m vc] w fun x w' =>
      x = .returned (.slice (some ⟨b, 0, none⟩) (n + m) c) ∧
      w' = World.row (World.row w.drew b (.cells (splA C1 ((i + m) * 4) (C1.extract (i * 4) (i * 4 + (n - i) * 4)).toList) 174 fz1)) b
        (.cells (splA (splA C1 ((i + m) * 4) (C1.extract (i * 4) (i * 4 + (n - i) * 4)).toList) (i * 4) (C2.extract 0 (0 + m * 4)).toList) 174 fz1) := by
  have hz1 : ¬ ((m : Int) = 0) := by omega
  have hz2 : ¬ ((i : Int) = (n : Int)) := by omega
  have hov : ∀ lb cb, (callFunc 306 #[.slice (some ⟨vb, 0, none⟩) m vc, .slice (some ⟨b, (i + m) * 4, none⟩) lb cb]).run Tryz.prog w = .ok (.value (.bool false)) w := fun lb cb => by
    rw [run_callFunc_extern Tryz.func306 (by kernel_rfl) (by kernel_rfl) (by kernel_rfl) (e := Extern.SlicesOverlaps.overlaps #[161, 161] #[4]) (by kernel_rfl),
      Lib.run_overlaps_apart w 161 4 174 Tryz.underlying161 4 (run_sizeOf' sizeInsTable) ⟨vb, 0, none⟩ ⟨b, (i + m) * 4, none⟩ m vc lb cb hvb 174 174 C2.size C1.size (shape_of_heap hv) (shape_of_heap hb) (by omega)
        (frozen_of_fz hv (hf2 0 (by omega))) (frozen_of_fz hv (by omega))]
    rfl
  obtain ⟨C', hC'⟩ : ∃ C', C' = splA C1 ((i + m) * 4) (C1.extract (i * 4) (i * 4 + (n - i) * 4)).toList := ⟨_, rfl⟩
  have hexl : (C1.extract (i * 4) (i * 4 + (n - i) * 4)).toList.length = (n - i) * 4 := by simp; omega
  have hC's : C'.size = C1.size := by rw [hC']; exact splA_size _ _ _ (by omega)
  have hcp1 : ∀ ty dc sc, (Builtin.copy_ #[161, 161] ty #[.slice (some ⟨b, (i + m) * 4, none⟩) (n + m - (i + m)) dc, .slice (some ⟨b, i * 4, none⟩) (n + m - i) sc]).run Tryz.prog w.drew = .ok (goInt ((n - i : Nat) : Int)) (World.row w.drew b (.cells C' 174 fz1)) := fun ty dc sc => by
    rw [hC']
    exact run_copyB undInsTable sizeInsTable (w := w.drew) hb hf1 hb (by simp only [Nat.min_def]; split <;> omega) (by omega) (by omega) (fun j v hj hv => h1c _ v (by omega) hv)
  obtain ⟨C'', hC''⟩ : ∃ C'', C'' = splA C' (i * 4) (C2.extract 0 (0 + m * 4)).toList := ⟨_, rfl⟩
  have hcp2 : ∀ (W : World), W = World.row w.drew b (.cells C' 174 fz1) → ∀ ty dc, (Builtin.copy_ #[161, 161] ty #[.slice (some ⟨b, i * 4, none⟩) (n + m - i) dc, .slice (some ⟨vb, 0, none⟩) m vc]).run Tryz.prog W = .ok (goInt (m : Int)) (World.row W b (.cells C'' 174 fz1)) := fun W hW ty dc => by
    rw [hC'']
    subst hW
    exact run_copyB undInsTable sizeInsTable (row_heap (w := w.drew) hb) (by rw [hC's]; exact hf1) ((row_heap_ne w.drew _ hvb).trans hv) (by simp only [Nat.min_def]; split <;> omega) (by omega) (by omega) (fun j v hj hv => h1v _ v (by omega) (by simpa using hv))
  rw [← hC', ← hC'']
  have mixed : Tryz.prog.follows .mixedOrders = true := by kernel_rfl
  have hw1 : IntKind.i64.wrap ((i : Int) + (m : Int)) = (i : Int) + (m : Int) := by rw [IntKind.wrap_i64]; omega
  have hw2 : IntKind.i64.wrap ((n : Int) + (m : Int)) = (n : Int) + (m : Int) := by rw [IntKind.wrap_i64]; omega
  have hb1 : (0 : Int) ≤ (i : Int) + (m : Int) := by omega
  have hb5 : (0 : Int) ≤ (n : Int) + (m : Int) := by omega
  have hin : i ≤ n := by omega
  have htn : ((i : Int) + (m : Int)).toNat = i + m := by omega
  have htn2 : ((n : Int) + (m : Int)).toNat = n + m := by omega
  have hb2 : ¬ (c = i + m) := by omega
  have hb3 : (i : Int) ≤ (n : Int) + (m : Int) := by omega
  have hb4 : ¬ (c = i) := by omega
  clear hexl hC's hC' hC'' h1c h1v hf1 hf2 hf3 hb hv hcs hvs hbig
  go_enter Tryz.func200, Tryz.ntmps200
  go_wp2_with (simp only [hov])
  go_region_law_o (refine step_copy_runI rfl _ _ 161 161 rfl _ _ (by simp [Act.eval, Act.put]) (by simp [Act.eval, Act.put]) (hcp1 _ _ _) ?_)
  go_wp2_with (at_builtin; refine wpList_copy_runI _ rfl _ _ 161 161 rfl _ _ rfl rfl (hcp2 _ rfl _ _) ?_)
  go_ret
  exact ⟨rfl, rfl⟩

set_option maxHeartbeats 4000000 in
theorem insGrowTable (b n c i vb m vc : Nat) (C1 C2 : Array Value) (fz1 fz2 : Nat × Nat) (w : World) (hi : i < n) (hm : 1 ≤ m) (hnc : n ≤ c) (hroom : c < n + m) (hbig : (n + m) * 88 ≤ 274877906944) (hcs : c * 4 ≤ C1.size) (hvs : m * 4 ≤ C2.size)
    (hb : w.heap[b]? = some (.cells C1 174 fz1)) (hv : w.heap[vb]? = some (.cells C2 174 fz2))
    (h1c : ∀ (j : Nat) (v : Value), j < n * 4 → C1[j]? = some v → v.oneCell = true) (h1v : ∀ (j : Nat) (v : Value), j < m * 4 → C2[j]? = some v → v.oneCell = true) (Q : Value → World → Prop)
    (hQ : ∀ (G : Nat) (R : Array Value) (w' : World), n + m ≤ G → R.size = G * 4 → (∀ j, j < i * 4 → R[j]? = C1[j]?) →
      w'.heap = (World.row (World.row (w.alloc (.cells R 174)) w.heap.size (.cells (splA R (i * 4) (C2.extract 0 (0 + m * 4)).toList) 174 (0, 0))) w.heap.size
        (.cells (splA (splA R (i * 4) (C2.extract 0 (0 + m * 4)).toList) ((i + m) * 4) (C1.extract (i * 4) (i * 4 + (n - i) * 4)).toList) 174 (0, 0))).heap → w'.os = w.os → w'.output = w.output →
      Q (.slice (some ⟨w.heap.size, 0, none⟩) (n + m) G) w') :
    Calls Tryz.prog 200 #[.slice (some ⟨b, 0, none⟩) n c, .int .i64 i, .slice (some ⟨vb, 0, none⟩) m vc] w fun x w' => ∃ v, x = .returned v ∧ Q v w' := by
  obtain ⟨i0, z, hi0, hz0, hzs, hzb, hzc⟩ := infoInsTable
  have hz1 : ¬ ((m : Int) = 0) := by omega
  have hz2 : ¬ ((i : Int) = (n : Int)) := by omega
  have hz3 : (c : Int) < (n : Int) + (m : Int) := by omega
  have hbw : b < w.heap.size := (Array.getElem?_eq_some_iff.1 hb).1
  have hvw : vb < w.heap.size := (Array.getElem?_eq_some_iff.1 hv).1
  have hkk : (n : Int) + (m : Int) - (i : Int) = ((n + m - i : Nat) : Int) := by omega
  have hik : i + (n + m - i) = n + m := by omega
  have hold : (Builtin.firstCells i0.size i (.slice (some ⟨b, 0, none⟩) i c)).run Tryz.prog w.drew = .ok (C1.extract 0 (0 + i * 4)).toList.toArray w.drew := by
    rw [hzs]
    simp only [Builtin.firstCells]
    exact run_loadCells_at (w := w.drew) hb (by omega)
  have hrz : ∀ ty, (Builtin.append_ #[161, 3] ty #[.slice (some ⟨b, 0, none⟩) i c, .int .i64 ((n : Int) + (m : Int) - (i : Int))]).run Tryz.prog w =
      .ok (.slice (some ⟨w.heap.size, 0, none⟩) (n + m) (grownCap w (n + m) c 174)) (w.drew.alloc (.cells ((C1.extract 0 (0 + i * 4)).toList.toArray ++ Builtin.zeroCells z.cells (n + m - i) ++ Builtin.zeroCells z.cells (grownCap w (n + m) c 174 - (n + m))) 174)) := fun ty => by
    have h := Lib.run_append_grow_zeros w 161 3 ty 174 i0 z .i64 .i64 Tryz.underlying161 Tryz.underlying3 hi0 hz0 (some ⟨b, 0, none⟩) i c (C1.extract 0 (0 + i * 4)).toList hold (n + m - i) (by omega) (by omega) (by omega) (by omega) (by rw [hzb]; omega) (by rw [hzb, hik]; exact growslice_fits hroom (by omega))
    rw [hik] at h
    rw [hkk]
    exact h
  have hGn : n + m ≤ grownCap w (n + m) c 174 := grownCap_ge w _ _ _
  have hG63 : grownCap w (n + m) c 174 ≤ 9223372036854775807 := by
    have := grownCap_le_maxLen w (n + m) c 174 (by unfold maxLen; omega)
    unfold maxLen at this
    omega
  obtain ⟨G, hG⟩ : ∃ G, G = grownCap w (n + m) c 174 := ⟨_, rfl⟩
  rw [← hG] at hrz hGn hG63
  obtain ⟨R, hR⟩ : ∃ R : Array Value, R = (C1.extract 0 (0 + i * 4)).toList.toArray ++ Builtin.zeroCells z.cells (n + m - i) ++ Builtin.zeroCells z.cells (G - (n + m)) := ⟨_, rfl⟩
  rw [← hR] at hrz
  have hRs : R.size = G * 4 := by
    rw [hR]
    simp only [Array.size_append, size_zc', Array.toArray_toList, Array.size_extract, hzc]
    omega
  have hRl : ∀ j, j < i * 4 → R[j]? = C1[j]? := fun j hj => by
    rw [hR, Array.append_assoc, Array.getElem?_append_left (by simp; omega)]
    simp only [Array.toArray_toList, Array.getElem?_extract]
    rw [if_pos (by omega), Nat.zero_add]
  obtain ⟨R2, hR2⟩ : ∃ R2, R2 = splA R (i * 4) (C2.extract 0 (0 + m * 4)).toList := ⟨_, rfl⟩
  have hxl : (C2.extract 0 (0 + m * 4)).toList.length = m * 4 := by simp; omega
  have hR2s : R2.size = R.size := by rw [hR2]; exact splA_size _ _ _ (by omega)
  obtain ⟨R3, hR3⟩ : ∃ R3, R3 = splA R2 ((i + m) * 4) (C1.extract (i * 4) (i * 4 + (n - i) * 4)).toList := ⟨_, rfl⟩
  have hp : (w.alloc (.cells R 174)).heap[w.heap.size]? = some (.cells R 174 (0, 0)) := heap_push_eq _ _
  have hcpA : ∀ (W : World), W.heap = (w.alloc (.cells R 174)).heap → ∀ ty dc, (Builtin.copy_ #[161, 161] ty #[.slice (some ⟨w.heap.size, i * 4, none⟩) (n + m - i) dc, .slice (some ⟨vb, 0, none⟩) m vc]).run Tryz.prog W = .ok (goInt (m : Int)) (World.row W w.heap.size (.cells R2 174 (0, 0))) := fun W hW ty dc => by
    rw [hR2]
    exact run_copyB undInsTable sizeInsTable (by rw [hW]; exact hp) (fzOk00 _) (by rw [hW]; exact (Lib.alloc_old w _ vb hvw).trans hv) (by simp only [Nat.min_def]; split <;> omega) (by omega) (by omega) (fun j v hj hv => h1v _ v (by omega) (by simpa using hv))
  have hcpB : ∀ (W : World), W.heap = (World.row (w.alloc (.cells R 174)) w.heap.size (.cells R2 174 (0, 0))).heap → ∀ ty dc sc, (Builtin.copy_ #[161, 161] ty #[.slice (some ⟨w.heap.size, (i + m) * 4, none⟩) (n + m - (i + m)) dc, .slice (some ⟨b, i * 4, none⟩) (n - i) sc]).run Tryz.prog W = .ok (goInt ((n - i : Nat) : Int)) (World.row W w.heap.size (.cells R3 174 (0, 0))) := fun W hW ty dc sc => by
    rw [hR3]
    exact run_copyB undInsTable sizeInsTable (by rw [hW]; exact row_heap hp) (fzOk00 _) (by rw [hW, row_heap_ne _ _ (by omega)]; exact (Lib.alloc_old w _ b hbw).trans hb) (by simp only [Nat.min_def]; split <;> omega) (by omega) (by omega) (fun j v hj hv => h1c _ v (by omega) hv)
  have HQ := Lib.hid (fun w' h => hQ G R w' hGn hRs hRl h)
  rw [← hR2, ← hR3] at HQ
  have mixed : Tryz.prog.follows .mixedOrders = true := by kernel_rfl
  have hGi : ¬ (G = i) := by omega
  have hGim : ¬ (G = i + m) := by omega
  have hci : ¬ (c = i) := by omega
  have hbN : b ≠ w.heap.size := by omega
  have hw1 : IntKind.i64.wrap ((i : Int) + (m : Int)) = (i : Int) + (m : Int) := by rw [IntKind.wrap_i64]; omega
  have hw2 : IntKind.i64.wrap ((n : Int) + (m : Int)) = (n : Int) + (m : Int) := by rw [IntKind.wrap_i64]; omega
  have hw3 : IntKind.i64.wrap ((n : Int) + (m : Int) - (i : Int)) = (n : Int) + (m : Int) - (i : Int) := by rw [IntKind.wrap_i64]; omega
  have hb1 : (0 : Int) ≤ (i : Int) + (m : Int) := by omega
  have hin : i ≤ n := by omega
  have htn : ((i : Int) + (m : Int)).toNat = i + m := by omega
  have hb3 : (i : Int) ≤ (n : Int) := by omega
  have hb6 : (i : Int) + (m : Int) ≤ (n : Int) + (m : Int) := by omega
  clear hkk hik hold hR hRl hRs hR2 hR3 hR2s hp hxl hQ hG h1c h1v hb hv hcs hvs hbig hG63 hz0 hi0 hzs hzb hzc
  go_enter Tryz.func200, Tryz.ntmps200
  go_wp2_with (at_builtin; refine Lib.wpList_append_run _ rfl _ _ _ _ rfl _ _ rfl rfl _ _ (hrz _) ?_)
  rw [hcpA (w.alloc (.cells R 174)).drew rfl]
  simp only [Result.andThen]
  rw [Oper.upon_value]
  go_wp2
  go_region_law_o (refine step_copy_runI rfl _ _ 161 161 rfl (.slice (some ⟨w.heap.size, (i + m) * 4, none⟩) (n + m - (i + m)) (G - (i + m))) (.slice (some ⟨b, i * 4, none⟩) (n - i) (c - i)) (by simp [Act.eval, Act.put]) (by simp [Act.eval, Act.put]) (hcpB (World.row (w.alloc (.cells R 174)).drew w.heap.size (.cells R2 174 (0, 0))).drew rfl 3 (G - (i + m)) (c - i)) ?_)
  go_wp2
  go_ret
  exact ⟨_, rfl, HQ.out _ rfl rfl rfl⟩

theorem ins_callsTable : InsCalls Tryz.prog 200 174 4 88 := by
  intro b n c i vb m vc C1 C2 fz1 fz2 w hi hm hnc hcs hvs hvb hb hf1 hv hf2 hf3 h1c h1v hbig
  have hbig : (n + m) * 88 ≤ 274877906944 := hbig
  have hx1 : (C1.extract (i * 4) (i * 4 + (n - i) * 4)).toList.length = (n - i) * 4 := by simp; omega
  have hx2 : (C2.extract 0 (0 + m * 4)).toList.length = m * 4 := by simp; omega
  have g1 : ∀ j, j < (n - i) * 4 → (C1.extract (i * 4) (i * 4 + (n - i) * 4)).toList[j]? = C1[i * 4 + j]? := fun j hj => by
    rw [Array.getElem?_toList, Array.getElem?_extract, if_pos (by omega)]
  have g2 : ∀ j, j < m * 4 → (C2.extract 0 (0 + m * 4)).toList[j]? = C2[j]? := fun j hj => by
    rw [Array.getElem?_toList, Array.getElem?_extract, if_pos (by omega), Nat.zero_add]
  by_cases hroom : n + m ≤ c
  · refine (insRoomTable b n c i vb m vc C1 C2 fz1 fz2 w hi hm hroom hbig hcs hvs hvb hb hf1 hv hf2 hf3 h1c h1v).mono ?_
    rintro x w' ⟨rfl, rfl⟩
    have s1 : (splA C1 ((i + m) * 4) (C1.extract (i * 4) (i * 4 + (n - i) * 4)).toList).size = C1.size := splA_size _ _ _ (by omega)
    have s2 : (splA (splA C1 ((i + m) * 4) (C1.extract (i * 4) (i * 4 + (n - i) * 4)).toList) (i * 4) (C2.extract 0 (0 + m * 4)).toList).size = C1.size := by rw [splA_size _ _ _ (by omega), s1]
    refine ⟨b, c, _, rfl, hroom, by rw [s2]; exact hcs, .inl ⟨rfl, s2, by rw [row_row]; rfl⟩, rfl, rfl, fun j hj => ?_, fun j hj => ?_, fun j hj => ?_⟩
    · rw [splA_get _ _ _ (by omega), if_pos hj, splA_get _ _ _ (by omega), if_pos (by omega)]
    · rw [splA_get _ _ _ (by omega), if_neg (by omega), if_pos (by omega), Nat.add_sub_cancel_left, g2 j hj]
    · rw [splA_get _ _ _ (by omega), if_neg (by omega), if_neg (by omega), splA_get _ _ _ (by omega), if_neg (by omega), if_pos (by omega), show i * 4 + m * 4 + j - (i + m) * 4 = j by omega, g1 j hj]
  · refine (insGrowTable b n c i vb m vc C1 C2 fz1 fz2 w hi hm hnc (by omega) hbig hcs hvs hb hv h1c h1v (fun v w' => ∃ (b' c' : Nat) (C' : Array Value), v = .slice (some ⟨b', 0, none⟩) (n + m) c' ∧ n + m ≤ c' ∧ c' * 4 ≤ C'.size ∧
        ((b' = b ∧ C'.size = C1.size ∧ w'.heap = (World.row w b (.cells C' 174 fz1)).heap) ∨ (b' = w.heap.size ∧ w'.heap = w.heap.push (.cells C' 174 (0, 0)))) ∧ w'.os = w.os ∧ w'.output = w.output ∧
        (∀ j, j < i * 4 → C'[j]? = C1[j]?) ∧ (∀ j, j < m * 4 → C'[i * 4 + j]? = C2[j]?) ∧ (∀ j, j < (n - i) * 4 → C'[i * 4 + m * 4 + j]? = C1[i * 4 + j]?)) ?_).mono ?_
    · intro G R w' hG hR hRl hh hos hout
      have s1 : (splA R (i * 4) (C2.extract 0 (0 + m * 4)).toList).size = R.size := splA_size _ _ _ (by omega)
      have s2 : (splA (splA R (i * 4) (C2.extract 0 (0 + m * 4)).toList) ((i + m) * 4) (C1.extract (i * 4) (i * 4 + (n - i) * 4)).toList).size = R.size := by rw [splA_size _ _ _ (by omega), s1]
      refine ⟨w.heap.size, G, _, rfl, hG, by rw [s2, hR]; exact Nat.le_refl _, .inr ⟨rfl, by rw [hh, row_row]; exact push_row w _ _⟩, hos, hout, fun j hj => ?_, fun j hj => ?_, fun j hj => ?_⟩
      · rw [splA_get _ _ _ (by omega), if_pos (by omega), splA_get _ _ _ (by omega), if_pos hj, hRl j hj]
      · rw [splA_get _ _ _ (by omega), if_pos (by omega), splA_get _ _ _ (by omega), if_neg (by omega), if_pos (by omega), Nat.add_sub_cancel_left, g2 j hj]
      · rw [splA_get _ _ _ (by omega), if_neg (by omega), if_pos (by omega), show i * 4 + m * 4 + j - (i + m) * 4 = j by omega, g1 j hj]
    · rintro x w' ⟨v, rfl, b', c', C', rfl, h⟩
      exact ⟨b', c', C', rfl, h⟩

theorem mkTable : Gl.mark 174 = false := by kernel_rfl
def insETable : Ent := fun a o => match a, o with
  | [.sl 0 sz 0 n none, .d (.int .i64 i), .sl 1 sz2 0 m _], .rar e cs :: .rar e2 cs2 :: r =>
    bif Nat.beq sz 4 && Nat.beq sz2 4 && Nat.beq e 174 && Nat.beq e2 174 && Nat.blt i.toNat n && Nat.ble 1 m && Nat.ble (n * 4) cs.length && Nat.ble (m * 4) cs2.length && Nat.ble (n + m) 1000000 then
      some (.sl (r.length + 2) 4 0 (n + m) none, .gone :: .rar 174 cs2 :: r ++ [.rar 174 (cs.take (i.toNat * 4) ++ cs2.take (m * 4) ++ (cs.drop (i.toNat * 4)).take ((n - i.toNat) * 4))], [decide (0 ≤ i)]) else none
  | _, _ => none
theorem ins_entTable : EntOk Tryz.prog 200 insETable := by
  intro a o r o' c hg hc
  unfold insETable at hg
  split at hg
  · rename_i sz n i sz2 m k e cs e2 cs2 rr
    rw [cond_eq_ite] at hg
    split at hg <;> rename_i hcond
    · simp only [Option.some.injEq, Prod.mk.injEq] at hg
      obtain ⟨rfl, rfl, rfl⟩ := hg
      simp only [Bool.and_eq_true] at hcond
      obtain ⟨⟨⟨⟨⟨⟨⟨⟨k1, k2⟩, k3⟩, k4⟩, k5⟩, k6⟩, k7⟩, k8⟩, k9⟩ := hcond
      have := nbE k1; subst this
      have := nbE k2; subst this
      have := nbE k3; subst this
      have := nbE k4; subst this
      have k5 : i.toNat < n := Nat.le_of_ble_eq_true k5
      have k6 := Nat.le_of_ble_eq_true k6
      have k7 := Nat.le_of_ble_eq_true k7
      have k8 := Nat.le_of_ble_eq_true k8
      have k9 := Nat.le_of_ble_eq_true k9
      have h0 : 0 ≤ i := by simpa using hc (decide (0 ≤ i)) (by simp)
      have := ins_c (k := k) (cs := cs) (cs2 := cs2) (r := rr) ins_callsTable mkTable k5 k6 k7 k8 (by show (n + m) * 88 ≤ 274877906944; omega)
      rw [Int.toNat_of_nonneg h0] at this
      exact this
    · cases hg
  · cases hg

theorem undInsIndex : (Env.of Tryz.prog).und 172 = some (.slice 328) := by kernel_rfl
theorem sizeInsIndex : (Env.of Tryz.prog).size 328 = some 3 := by kernel_rfl
theorem infoInsIndex : ∃ i z, Tryz.prog.info? 328 = some i ∧ i.zero = some z ∧ i.size = 3 ∧ i.bytes = 48 ∧ z.cells.size = 3 := by
  have h : (Tryz.prog.info? 328).bind (fun i => i.zero.map fun z => (Nat.beq i.size 3 && Nat.beq i.bytes 48 && Nat.beq z.cells.size 3)) = some true := by kernel_rfl
  cases hi : Tryz.prog.info? 328 with
  | none => rw [hi] at h; cases h
  | some i =>
    rw [hi] at h
    cases hz : i.zero with
    | none => simp [hz] at h
    | some z =>
      simp only [Option.bind_some, hz, Option.map_some, Option.some.injEq, Bool.and_eq_true] at h
      exact ⟨i, z, rfl, hz, nbE h.1.1, nbE h.1.2, nbE h.2⟩

set_option maxHeartbeats 4000000 in
theorem insRoomIndex (b n c i vb m vc : Nat) (C1 C2 : Array Value) (fz1 fz2 : Nat × Nat) (w : World) (hi : i < n) (hm : 1 ≤ m) (hroom : n + m ≤ c) (hbig : (n + m) * 48 ≤ 274877906944) (hcs : c * 3 ≤ C1.size) (hvs : m * 3 ≤ C2.size) (hvb : vb ≠ b)
    (hb : w.heap[b]? = some (.cells C1 328 fz1)) (hf1 : FzOk fz1 C1.size) (hv : w.heap[vb]? = some (.cells C2 328 fz2)) (hf2 : FzOk fz2 C2.size) (hf3 : fz2.2 ≤ C2.size)
    (h1c : ∀ (j : Nat) (v : Value), j < n * 3 → C1[j]? = some v → v.oneCell = true) (h1v : ∀ (j : Nat) (v : Value), j < m * 3 → C2[j]? = some v → v.oneCell = true) :
    Calls Tryz.prog 206 #[.slice (some ⟨b, 0, none⟩) n c, .int .i64 i, .slice (some ⟨vb, 0, none⟩) m vc] w fun x w' =>
      x = .returned (.slice (some ⟨b, 0, none⟩) (n + m) c) ∧
      w' = World.row (World.row w.drew b (.cells (splA C1 ((i + m) * 3) (C1.extract (i * 3) (i * 3 + (n - i) * 3)).toList) 328 fz1)) b
        (.cells (splA (splA C1 ((i + m) * 3) (C1.extract (i * 3) (i * 3 + (n - i) * 3)).toList) (i * 3) (C2.extract 0 (0 + m * 3)).toList) 328 fz1) := by
  have hz1 : ¬ ((m : Int) = 0) := by omega
  have hz2 : ¬ ((i : Int) = (n : Int)) := by omega
  have hov : ∀ lb cb, (callFunc 309 #[.slice (some ⟨vb, 0, none⟩) m vc, .slice (some ⟨b, (i + m) * 3, none⟩) lb cb]).run Tryz.prog w = .ok (.value (.bool false)) w := fun lb cb => by
    rw [run_callFunc_extern Tryz.func309 (by kernel_rfl) (by kernel_rfl) (by kernel_rfl) (e := Extern.SlicesOverlaps.overlaps #[172, 172] #[4]) (by kernel_rfl),
      Lib.run_overlaps_apart w 172 4 328 Tryz.underlying172 3 (run_sizeOf' sizeInsIndex) ⟨vb, 0, none⟩ ⟨b, (i + m) * 3, none⟩ m vc lb cb hvb 328 328 C2.size C1.size (shape_of_heap hv) (shape_of_heap hb) (by omega)
        (frozen_of_fz hv (hf2 0 (by omega))) (frozen_of_fz hv (by omega))]
    rfl
  obtain ⟨C', hC'⟩ : ∃ C', C' = splA C1 ((i + m) * 3) (C1.extract (i * 3) (i * 3 + (n - i) * 3)).toList := ⟨_, rfl⟩
  have hexl : (C1.extract (i * 3) (i * 3 + (n - i) * 3)).toList.length = (n - i) * 3 := by simp; omega
  have hC's : C'.size = C1.size := by rw [hC']; exact splA_size _ _ _ (by omega)
  have hcp1 : ∀ ty dc sc, (Builtin.copy_ #[172, 172] ty #[.slice (some ⟨b, (i + m) * 3, none⟩) (n + m - (i + m)) dc, .slice (some ⟨b, i * 3, none⟩) (n + m - i) sc]).run Tryz.prog w.drew = .ok (goInt ((n - i : Nat) : Int)) (World.row w.drew b (.cells C' 328 fz1)) := fun ty dc sc => by
    rw [hC']
    exact run_copyB undInsIndex sizeInsIndex (w := w.drew) hb hf1 hb (by simp only [Nat.min_def]; split <;> omega) (by omega) (by omega) (fun j v hj hv => h1c _ v (by omega) hv)
  obtain ⟨C'', hC''⟩ : ∃ C'', C'' = splA C' (i * 3) (C2.extract 0 (0 + m * 3)).toList := ⟨_, rfl⟩
  have hcp2 : ∀ (W : World), W = World.row w.drew b (.cells C' 328 fz1) → ∀ ty dc, (Builtin.copy_ #[172, 172] ty #[.slice (some ⟨b, i * 3, none⟩) (n + m - i) dc, .slice (some ⟨vb, 0, none⟩) m vc]).run Tryz.prog W = .ok (goInt (m : Int)) (World.row W b (.cells C'' 328 fz1)) := fun W hW ty dc => by
    rw [hC'']
    subst hW
    exact run_copyB undInsIndex sizeInsIndex (row_heap (w := w.drew) hb) (by rw [hC's]; exact hf1) ((row_heap_ne w.drew _ hvb).trans hv) (by simp only [Nat.min_def]; split <;> omega) (by omega) (by omega) (fun j v hj hv => h1v _ v (by omega) (by simpa using hv))
  rw [← hC', ← hC'']
  have mixed : Tryz.prog.follows .mixedOrders = true := by kernel_rfl
  have hw1 : IntKind.i64.wrap ((i : Int) + (m : Int)) = (i : Int) + (m : Int) := by rw [IntKind.wrap_i64]; omega
  have hw2 : IntKind.i64.wrap ((n : Int) + (m : Int)) = (n : Int) + (m : Int) := by rw [IntKind.wrap_i64]; omega
  have hb1 : (0 : Int) ≤ (i : Int) + (m : Int) := by omega
  have hb5 : (0 : Int) ≤ (n : Int) + (m : Int) := by omega
  have hin : i ≤ n := by omega
  have htn : ((i : Int) + (m : Int)).toNat = i + m := by omega
  have htn2 : ((n : Int) + (m : Int)).toNat = n + m := by omega
  have hb2 : ¬ (c = i + m) := by omega
  have hb3 : (i : Int) ≤ (n : Int) + (m : Int) := by omega
  have hb4 : ¬ (c = i) := by omega
  clear hexl hC's hC' hC'' h1c h1v hf1 hf2 hf3 hb hv hcs hvs hbig
  go_enter Tryz.func206, Tryz.ntmps206
  go_wp2_with (simp only [hov])
  go_region_law_o (refine step_copy_runI rfl _ _ 172 172 rfl _ _ (by simp [Act.eval, Act.put]) (by simp [Act.eval, Act.put]) (hcp1 _ _ _) ?_)
  go_wp2_with (at_builtin; refine wpList_copy_runI _ rfl _ _ 172 172 rfl _ _ rfl rfl (hcp2 _ rfl _ _) ?_)
  go_ret
  exact ⟨rfl, rfl⟩

set_option maxHeartbeats 4000000 in
theorem insGrowIndex (b n c i vb m vc : Nat) (C1 C2 : Array Value) (fz1 fz2 : Nat × Nat) (w : World) (hi : i < n) (hm : 1 ≤ m) (hnc : n ≤ c) (hroom : c < n + m) (hbig : (n + m) * 48 ≤ 274877906944) (hcs : c * 3 ≤ C1.size) (hvs : m * 3 ≤ C2.size)
    (hb : w.heap[b]? = some (.cells C1 328 fz1)) (hv : w.heap[vb]? = some (.cells C2 328 fz2))
    (h1c : ∀ (j : Nat) (v : Value), j < n * 3 → C1[j]? = some v → v.oneCell = true) (h1v : ∀ (j : Nat) (v : Value), j < m * 3 → C2[j]? = some v → v.oneCell = true) (Q : Value → World → Prop)
    (hQ : ∀ (G : Nat) (R : Array Value) (w' : World), n + m ≤ G → R.size = G * 3 → (∀ j, j < i * 3 → R[j]? = C1[j]?) →
      w'.heap = (World.row (World.row (w.alloc (.cells R 328)) w.heap.size (.cells (splA R (i * 3) (C2.extract 0 (0 + m * 3)).toList) 328 (0, 0))) w.heap.size
        (.cells (splA (splA R (i * 3) (C2.extract 0 (0 + m * 3)).toList) ((i + m) * 3) (C1.extract (i * 3) (i * 3 + (n - i) * 3)).toList) 328 (0, 0))).heap → w'.os = w.os → w'.output = w.output →
      Q (.slice (some ⟨w.heap.size, 0, none⟩) (n + m) G) w') :
    Calls Tryz.prog 206 #[.slice (some ⟨b, 0, none⟩) n c, .int .i64 i, .slice (some ⟨vb, 0, none⟩) m vc] w fun x w' => ∃ v, x = .returned v ∧ Q v w' := by
  obtain ⟨i0, z, hi0, hz0, hzs, hzb, hzc⟩ := infoInsIndex
  have hz1 : ¬ ((m : Int) = 0) := by omega
  have hz2 : ¬ ((i : Int) = (n : Int)) := by omega
  have hz3 : (c : Int) < (n : Int) + (m : Int) := by omega
  have hbw : b < w.heap.size := (Array.getElem?_eq_some_iff.1 hb).1
  have hvw : vb < w.heap.size := (Array.getElem?_eq_some_iff.1 hv).1
  have hkk : (n : Int) + (m : Int) - (i : Int) = ((n + m - i : Nat) : Int) := by omega
  have hik : i + (n + m - i) = n + m := by omega
  have hold : (Builtin.firstCells i0.size i (.slice (some ⟨b, 0, none⟩) i c)).run Tryz.prog w.drew = .ok (C1.extract 0 (0 + i * 3)).toList.toArray w.drew := by
    rw [hzs]
    simp only [Builtin.firstCells]
    exact run_loadCells_at (w := w.drew) hb (by omega)
  have hrz : ∀ ty, (Builtin.append_ #[172, 3] ty #[.slice (some ⟨b, 0, none⟩) i c, .int .i64 ((n : Int) + (m : Int) - (i : Int))]).run Tryz.prog w =
      .ok (.slice (some ⟨w.heap.size, 0, none⟩) (n + m) (grownCap w (n + m) c 328)) (w.drew.alloc (.cells ((C1.extract 0 (0 + i * 3)).toList.toArray ++ Builtin.zeroCells z.cells (n + m - i) ++ Builtin.zeroCells z.cells (grownCap w (n + m) c 328 - (n + m))) 328)) := fun ty => by
    have h := Lib.run_append_grow_zeros w 172 3 ty 328 i0 z .i64 .i64 Tryz.underlying172 Tryz.underlying3 hi0 hz0 (some ⟨b, 0, none⟩) i c (C1.extract 0 (0 + i * 3)).toList hold (n + m - i) (by omega) (by omega) (by omega) (by omega) (by rw [hzb]; omega) (by rw [hzb, hik]; exact growslice_fits hroom (by omega))
    rw [hik] at h
    rw [hkk]
    exact h
  have hGn : n + m ≤ grownCap w (n + m) c 328 := grownCap_ge w _ _ _
  have hG63 : grownCap w (n + m) c 328 ≤ 9223372036854775807 := by
    have := grownCap_le_maxLen w (n + m) c 328 (by unfold maxLen; omega)
    unfold maxLen at this
    omega
  obtain ⟨G, hG⟩ : ∃ G, G = grownCap w (n + m) c 328 := ⟨_, rfl⟩
  rw [← hG] at hrz hGn hG63
  obtain ⟨R, hR⟩ : ∃ R : Array Value, R = (C1.extract 0 (0 + i * 3)).toList.toArray ++ Builtin.zeroCells z.cells (n + m - i) ++ Builtin.zeroCells z.cells (G - (n + m)) := ⟨_, rfl⟩
  rw [← hR] at hrz
  have hRs : R.size = G * 3 := by
    rw [hR]
    simp only [Array.size_append, size_zc', Array.toArray_toList, Array.size_extract, hzc]
    omega
  have hRl : ∀ j, j < i * 3 → R[j]? = C1[j]? := fun j hj => by
    rw [hR, Array.append_assoc, Array.getElem?_append_left (by simp; omega)]
    simp only [Array.toArray_toList, Array.getElem?_extract]
    rw [if_pos (by omega), Nat.zero_add]
  obtain ⟨R2, hR2⟩ : ∃ R2, R2 = splA R (i * 3) (C2.extract 0 (0 + m * 3)).toList := ⟨_, rfl⟩
  have hxl : (C2.extract 0 (0 + m * 3)).toList.length = m * 3 := by simp; omega
  have hR2s : R2.size = R.size := by rw [hR2]; exact splA_size _ _ _ (by omega)
  obtain ⟨R3, hR3⟩ : ∃ R3, R3 = splA R2 ((i + m) * 3) (C1.extract (i * 3) (i * 3 + (n - i) * 3)).toList := ⟨_, rfl⟩
  have hp : (w.alloc (.cells R 328)).heap[w.heap.size]? = some (.cells R 328 (0, 0)) := heap_push_eq _ _
  have hcpA : ∀ (W : World), W.heap = (w.alloc (.cells R 328)).heap → ∀ ty dc, (Builtin.copy_ #[172, 172] ty #[.slice (some ⟨w.heap.size, i * 3, none⟩) (n + m - i) dc, .slice (some ⟨vb, 0, none⟩) m vc]).run Tryz.prog W = .ok (goInt (m : Int)) (World.row W w.heap.size (.cells R2 328 (0, 0))) := fun W hW ty dc => by
    rw [hR2]
    exact run_copyB undInsIndex sizeInsIndex (by rw [hW]; exact hp) (fzOk00 _) (by rw [hW]; exact (Lib.alloc_old w _ vb hvw).trans hv) (by simp only [Nat.min_def]; split <;> omega) (by omega) (by omega) (fun j v hj hv => h1v _ v (by omega) (by simpa using hv))
  have hcpB : ∀ (W : World), W.heap = (World.row (w.alloc (.cells R 328)) w.heap.size (.cells R2 328 (0, 0))).heap → ∀ ty dc sc, (Builtin.copy_ #[172, 172] ty #[.slice (some ⟨w.heap.size, (i + m) * 3, none⟩) (n + m - (i + m)) dc, .slice (some ⟨b, i * 3, none⟩) (n - i) sc]).run Tryz.prog W = .ok (goInt ((n - i : Nat) : Int)) (World.row W w.heap.size (.cells R3 328 (0, 0))) := fun W hW ty dc sc => by
    rw [hR3]
    exact run_copyB undInsIndex sizeInsIndex (by rw [hW]; exact row_heap hp) (fzOk00 _) (by rw [hW, row_heap_ne _ _ (by omega)]; exact (Lib.alloc_old w _ b hbw).trans hb) (by simp only [Nat.min_def]; split <;> omega) (by omega) (by omega) (fun j v hj hv => h1c _ v (by omega) hv)
  have HQ := Lib.hid (fun w' h => hQ G R w' hGn hRs hRl h)
  rw [← hR2, ← hR3] at HQ
  have mixed : Tryz.prog.follows .mixedOrders = true := by kernel_rfl
  have hGi : ¬ (G = i) := by omega
  have hGim : ¬ (G = i + m) := by omega
  have hci : ¬ (c = i) := by omega
  have hbN : b ≠ w.heap.size := by omega
  have hw1 : IntKind.i64.wrap ((i : Int) + (m : Int)) = (i : Int) + (m : Int) := by rw [IntKind.wrap_i64]; omega
  have hw2 : IntKind.i64.wrap ((n : Int) + (m : Int)) = (n : Int) + (m : Int) := by rw [IntKind.wrap_i64]; omega
  have hw3 : IntKind.i64.wrap ((n : Int) + (m : Int) - (i : Int)) = (n : Int) + (m : Int) - (i : Int) := by rw [IntKind.wrap_i64]; omega
  have hb1 : (0 : Int) ≤ (i : Int) + (m : Int) := by omega
  have hin : i ≤ n := by omega
  have htn : ((i : Int) + (m : Int)).toNat = i + m := by omega
  have hb3 : (i : Int) ≤ (n : Int) := by omega
  have hb6 : (i : Int) + (m : Int) ≤ (n : Int) + (m : Int) := by omega
  clear hkk hik hold hR hRl hRs hR2 hR3 hR2s hp hxl hQ hG h1c h1v hb hv hcs hvs hbig hG63 hz0 hi0 hzs hzb hzc
  go_enter Tryz.func206, Tryz.ntmps206
  go_wp2_with (at_builtin; refine Lib.wpList_append_run _ rfl _ _ _ _ rfl _ _ rfl rfl _ _ (hrz _) ?_)
  rw [hcpA (w.alloc (.cells R 328)).drew rfl]
  simp only [Result.andThen]
  rw [Oper.upon_value]
  go_wp2
  go_region_law_o (refine step_copy_runI rfl _ _ 172 172 rfl (.slice (some ⟨w.heap.size, (i + m) * 3, none⟩) (n + m - (i + m)) (G - (i + m))) (.slice (some ⟨b, i * 3, none⟩) (n - i) (c - i)) (by simp [Act.eval, Act.put]) (by simp [Act.eval, Act.put]) (hcpB (World.row (w.alloc (.cells R 328)).drew w.heap.size (.cells R2 328 (0, 0))).drew rfl 3 (G - (i + m)) (c - i)) ?_)
  go_wp2
  go_ret
  exact ⟨_, rfl, HQ.out _ rfl rfl rfl⟩

theorem ins_callsIndex : InsCalls Tryz.prog 206 328 3 48 := by
  intro b n c i vb m vc C1 C2 fz1 fz2 w hi hm hnc hcs hvs hvb hb hf1 hv hf2 hf3 h1c h1v hbig
  have hbig : (n + m) * 48 ≤ 274877906944 := hbig
  have hx1 : (C1.extract (i * 3) (i * 3 + (n - i) * 3)).toList.length = (n - i) * 3 := by simp; omega
  have hx2 : (C2.extract 0 (0 + m * 3)).toList.length = m * 3 := by simp; omega
  have g1 : ∀ j, j < (n - i) * 3 → (C1.extract (i * 3) (i * 3 + (n - i) * 3)).toList[j]? = C1[i * 3 + j]? := fun j hj => by
    rw [Array.getElem?_toList, Array.getElem?_extract, if_pos (by omega)]
  have g2 : ∀ j, j < m * 3 → (C2.extract 0 (0 + m * 3)).toList[j]? = C2[j]? := fun j hj => by
    rw [Array.getElem?_toList, Array.getElem?_extract, if_pos (by omega), Nat.zero_add]
  by_cases hroom : n + m ≤ c
  · refine (insRoomIndex b n c i vb m vc C1 C2 fz1 fz2 w hi hm hroom hbig hcs hvs hvb hb hf1 hv hf2 hf3 h1c h1v).mono ?_
    rintro x w' ⟨rfl, rfl⟩
    have s1 : (splA C1 ((i + m) * 3) (C1.extract (i * 3) (i * 3 + (n - i) * 3)).toList).size = C1.size := splA_size _ _ _ (by omega)
    have s2 : (splA (splA C1 ((i + m) * 3) (C1.extract (i * 3) (i * 3 + (n - i) * 3)).toList) (i * 3) (C2.extract 0 (0 + m * 3)).toList).size = C1.size := by rw [splA_size _ _ _ (by omega), s1]
    refine ⟨b, c, _, rfl, hroom, by rw [s2]; exact hcs, .inl ⟨rfl, s2, by rw [row_row]; rfl⟩, rfl, rfl, fun j hj => ?_, fun j hj => ?_, fun j hj => ?_⟩
    · rw [splA_get _ _ _ (by omega), if_pos hj, splA_get _ _ _ (by omega), if_pos (by omega)]
    · rw [splA_get _ _ _ (by omega), if_neg (by omega), if_pos (by omega), Nat.add_sub_cancel_left, g2 j hj]
    · rw [splA_get _ _ _ (by omega), if_neg (by omega), if_neg (by omega), splA_get _ _ _ (by omega), if_neg (by omega), if_pos (by omega), show i * 3 + m * 3 + j - (i + m) * 3 = j by omega, g1 j hj]
  · refine (insGrowIndex b n c i vb m vc C1 C2 fz1 fz2 w hi hm hnc (by omega) hbig hcs hvs hb hv h1c h1v (fun v w' => ∃ (b' c' : Nat) (C' : Array Value), v = .slice (some ⟨b', 0, none⟩) (n + m) c' ∧ n + m ≤ c' ∧ c' * 3 ≤ C'.size ∧
        ((b' = b ∧ C'.size = C1.size ∧ w'.heap = (World.row w b (.cells C' 328 fz1)).heap) ∨ (b' = w.heap.size ∧ w'.heap = w.heap.push (.cells C' 328 (0, 0)))) ∧ w'.os = w.os ∧ w'.output = w.output ∧
        (∀ j, j < i * 3 → C'[j]? = C1[j]?) ∧ (∀ j, j < m * 3 → C'[i * 3 + j]? = C2[j]?) ∧ (∀ j, j < (n - i) * 3 → C'[i * 3 + m * 3 + j]? = C1[i * 3 + j]?)) ?_).mono ?_
    · intro G R w' hG hR hRl hh hos hout
      have s1 : (splA R (i * 3) (C2.extract 0 (0 + m * 3)).toList).size = R.size := splA_size _ _ _ (by omega)
      have s2 : (splA (splA R (i * 3) (C2.extract 0 (0 + m * 3)).toList) ((i + m) * 3) (C1.extract (i * 3) (i * 3 + (n - i) * 3)).toList).size = R.size := by rw [splA_size _ _ _ (by omega), s1]
      refine ⟨w.heap.size, G, _, rfl, hG, by rw [s2, hR]; exact Nat.le_refl _, .inr ⟨rfl, by rw [hh, row_row]; exact push_row w _ _⟩, hos, hout, fun j hj => ?_, fun j hj => ?_, fun j hj => ?_⟩
      · rw [splA_get _ _ _ (by omega), if_pos (by omega), splA_get _ _ _ (by omega), if_pos hj, hRl j hj]
      · rw [splA_get _ _ _ (by omega), if_pos (by omega), splA_get _ _ _ (by omega), if_neg (by omega), if_pos (by omega), Nat.add_sub_cancel_left, g2 j hj]
      · rw [splA_get _ _ _ (by omega), if_neg (by omega), if_pos (by omega), show i * 3 + m * 3 + j - (i + m) * 3 = j by omega, g1 j hj]
    · rintro x w' ⟨v, rfl, b', c', C', rfl, h⟩
      exact ⟨b', c', C', rfl, h⟩

theorem mkIndex : Gl.mark 328 = false := by kernel_rfl
def insEIndex : Ent := fun a o => match a, o with
  | [.sl 0 sz 0 n none, .d (.int .i64 i), .sl 1 sz2 0 m _], .rar e cs :: .rar e2 cs2 :: r =>
    bif Nat.beq sz 3 && Nat.beq sz2 3 && Nat.beq e 328 && Nat.beq e2 328 && Nat.blt i.toNat n && Nat.ble 1 m && Nat.ble (n * 3) cs.length && Nat.ble (m * 3) cs2.length && Nat.ble (n + m) 1000000 then
      some (.sl (r.length + 2) 3 0 (n + m) none, .gone :: .rar 328 cs2 :: r ++ [.rar 328 (cs.take (i.toNat * 3) ++ cs2.take (m * 3) ++ (cs.drop (i.toNat * 3)).take ((n - i.toNat) * 3))], [decide (0 ≤ i)]) else none
  | _, _ => none
theorem ins_entIndex : EntOk Tryz.prog 206 insEIndex := by
  intro a o r o' c hg hc
  unfold insEIndex at hg
  split at hg
  · rename_i sz n i sz2 m k e cs e2 cs2 rr
    rw [cond_eq_ite] at hg
    split at hg <;> rename_i hcond
    · simp only [Option.some.injEq, Prod.mk.injEq] at hg
      obtain ⟨rfl, rfl, rfl⟩ := hg
      simp only [Bool.and_eq_true] at hcond
      obtain ⟨⟨⟨⟨⟨⟨⟨⟨k1, k2⟩, k3⟩, k4⟩, k5⟩, k6⟩, k7⟩, k8⟩, k9⟩ := hcond
      have := nbE k1; subst this
      have := nbE k2; subst this
      have := nbE k3; subst this
      have := nbE k4; subst this
      have k5 : i.toNat < n := Nat.le_of_ble_eq_true k5
      have k6 := Nat.le_of_ble_eq_true k6
      have k7 := Nat.le_of_ble_eq_true k7
      have k8 := Nat.le_of_ble_eq_true k8
      have k9 := Nat.le_of_ble_eq_true k9
      have h0 : 0 ≤ i := by simpa using hc (decide (0 ≤ i)) (by simp)
      have := ins_c (k := k) (cs := cs) (cs2 := cs2) (r := rr) ins_callsIndex mkIndex k5 k6 k7 k8 (by show (n + m) * 48 ≤ 274877906944; omega)
      rw [Int.toNat_of_nonneg h0] at this
      exact this
    · cases hg
  · cases hg

theorem undInsGroup : (Env.of Tryz.prog).und 262 = some (.slice 265) := by kernel_rfl
theorem sizeInsGroup : (Env.of Tryz.prog).size 265 = some 2 := by kernel_rfl
theorem infoInsGroup : ∃ i z, Tryz.prog.info? 265 = some i ∧ i.zero = some z ∧ i.size = 2 ∧ i.bytes = 48 ∧ z.cells.size = 2 := by
  have h : (Tryz.prog.info? 265).bind (fun i => i.zero.map fun z => (Nat.beq i.size 2 && Nat.beq i.bytes 48 && Nat.beq z.cells.size 2)) = some true := by kernel_rfl
  cases hi : Tryz.prog.info? 265 with
  | none => rw [hi] at h; cases h
  | some i =>
    rw [hi] at h
    cases hz : i.zero with
    | none => simp [hz] at h
    | some z =>
      simp only [Option.bind_some, hz, Option.map_some, Option.some.injEq, Bool.and_eq_true] at h
      exact ⟨i, z, rfl, hz, nbE h.1.1, nbE h.1.2, nbE h.2⟩

set_option maxHeartbeats 4000000 in
theorem insRoomGroup (b n c i vb m vc : Nat) (C1 C2 : Array Value) (fz1 fz2 : Nat × Nat) (w : World) (hi : i < n) (hm : 1 ≤ m) (hroom : n + m ≤ c) (hbig : (n + m) * 48 ≤ 274877906944) (hcs : c * 2 ≤ C1.size) (hvs : m * 2 ≤ C2.size) (hvb : vb ≠ b)
    (hb : w.heap[b]? = some (.cells C1 265 fz1)) (hf1 : FzOk fz1 C1.size) (hv : w.heap[vb]? = some (.cells C2 265 fz2)) (hf2 : FzOk fz2 C2.size) (hf3 : fz2.2 ≤ C2.size)
    (h1c : ∀ (j : Nat) (v : Value), j < n * 2 → C1[j]? = some v → v.oneCell = true) (h1v : ∀ (j : Nat) (v : Value), j < m * 2 → C2[j]? = some v → v.oneCell = true) :
    Calls Tryz.prog 261 #[.slice (some ⟨b, 0, none⟩) n c, .int .i64 i, .slice (some ⟨vb, 0, none⟩) m vc] w fun x w' =>
      x = .returned (.slice (some ⟨b, 0, none⟩) (n + m) c) ∧
      w' = World.row (World.row w.drew b (.cells (splA C1 ((i + m) * 2) (C1.extract (i * 2) (i * 2 + (n - i) * 2)).toList) 265 fz1)) b
        (.cells (splA (splA C1 ((i + m) * 2) (C1.extract (i * 2) (i * 2 + (n - i) * 2)).toList) (i * 2) (C2.extract 0 (0 + m * 2)).toList) 265 fz1) := by
  have hz1 : ¬ ((m : Int) = 0) := by omega
  have hz2 : ¬ ((i : Int) = (n : Int)) := by omega
  have hov : ∀ lb cb, (callFunc 350 #[.slice (some ⟨vb, 0, none⟩) m vc, .slice (some ⟨b, (i + m) * 2, none⟩) lb cb]).run Tryz.prog w = .ok (.value (.bool false)) w := fun lb cb => by
    rw [run_callFunc_extern Tryz.func350 (by kernel_rfl) (by kernel_rfl) (by kernel_rfl) (e := Extern.SlicesOverlaps.overlaps #[262, 262] #[4]) (by kernel_rfl),
      Lib.run_overlaps_apart w 262 4 265 Tryz.underlying262 2 (run_sizeOf' sizeInsGroup) ⟨vb, 0, none⟩ ⟨b, (i + m) * 2, none⟩ m vc lb cb hvb 265 265 C2.size C1.size (shape_of_heap hv) (shape_of_heap hb) (by omega)
        (frozen_of_fz hv (hf2 0 (by omega))) (frozen_of_fz hv (by omega))]
    rfl
  obtain ⟨C', hC'⟩ : ∃ C', C' = splA C1 ((i + m) * 2) (C1.extract (i * 2) (i * 2 + (n - i) * 2)).toList := ⟨_, rfl⟩
  have hexl : (C1.extract (i * 2) (i * 2 + (n - i) * 2)).toList.length = (n - i) * 2 := by simp; omega
  have hC's : C'.size = C1.size := by rw [hC']; exact splA_size _ _ _ (by omega)
  have hcp1 : ∀ ty dc sc, (Builtin.copy_ #[262, 262] ty #[.slice (some ⟨b, (i + m) * 2, none⟩) (n + m - (i + m)) dc, .slice (some ⟨b, i * 2, none⟩) (n + m - i) sc]).run Tryz.prog w.drew = .ok (goInt ((n - i : Nat) : Int)) (World.row w.drew b (.cells C' 265 fz1)) := fun ty dc sc => by
    rw [hC']
    exact run_copyB undInsGroup sizeInsGroup (w := w.drew) hb hf1 hb (by simp only [Nat.min_def]; split <;> omega) (by omega) (by omega) (fun j v hj hv => h1c _ v (by omega) hv)
  obtain ⟨C'', hC''⟩ : ∃ C'', C'' = splA C' (i * 2) (C2.extract 0 (0 + m * 2)).toList := ⟨_, rfl⟩
  have hcp2 : ∀ (W : World), W = World.row w.drew b (.cells C' 265 fz1) → ∀ ty dc, (Builtin.copy_ #[262, 262] ty #[.slice (some ⟨b, i * 2, none⟩) (n + m - i) dc, .slice (some ⟨vb, 0, none⟩) m vc]).run Tryz.prog W = .ok (goInt (m : Int)) (World.row W b (.cells C'' 265 fz1)) := fun W hW ty dc => by
    rw [hC'']
    subst hW
    exact run_copyB undInsGroup sizeInsGroup (row_heap (w := w.drew) hb) (by rw [hC's]; exact hf1) ((row_heap_ne w.drew _ hvb).trans hv) (by simp only [Nat.min_def]; split <;> omega) (by omega) (by omega) (fun j v hj hv => h1v _ v (by omega) (by simpa using hv))
  rw [← hC', ← hC'']
  have mixed : Tryz.prog.follows .mixedOrders = true := by kernel_rfl
  have hw1 : IntKind.i64.wrap ((i : Int) + (m : Int)) = (i : Int) + (m : Int) := by rw [IntKind.wrap_i64]; omega
  have hw2 : IntKind.i64.wrap ((n : Int) + (m : Int)) = (n : Int) + (m : Int) := by rw [IntKind.wrap_i64]; omega
  have hb1 : (0 : Int) ≤ (i : Int) + (m : Int) := by omega
  have hb5 : (0 : Int) ≤ (n : Int) + (m : Int) := by omega
  have hin : i ≤ n := by omega
  have htn : ((i : Int) + (m : Int)).toNat = i + m := by omega
  have htn2 : ((n : Int) + (m : Int)).toNat = n + m := by omega
  have hb2 : ¬ (c = i + m) := by omega
  have hb3 : (i : Int) ≤ (n : Int) + (m : Int) := by omega
  have hb4 : ¬ (c = i) := by omega
  clear hexl hC's hC' hC'' h1c h1v hf1 hf2 hf3 hb hv hcs hvs hbig
  go_enter Tryz.func261, Tryz.ntmps261
  go_wp2_with (simp only [hov])
  go_region_law_o (refine step_copy_runI rfl _ _ 262 262 rfl _ _ (by simp [Act.eval, Act.put]) (by simp [Act.eval, Act.put]) (hcp1 _ _ _) ?_)
  go_wp2_with (at_builtin; refine wpList_copy_runI _ rfl _ _ 262 262 rfl _ _ rfl rfl (hcp2 _ rfl _ _) ?_)
  go_ret
  exact ⟨rfl, rfl⟩

set_option maxHeartbeats 4000000 in
theorem insGrowGroup (b n c i vb m vc : Nat) (C1 C2 : Array Value) (fz1 fz2 : Nat × Nat) (w : World) (hi : i < n) (hm : 1 ≤ m) (hnc : n ≤ c) (hroom : c < n + m) (hbig : (n + m) * 48 ≤ 274877906944) (hcs : c * 2 ≤ C1.size) (hvs : m * 2 ≤ C2.size)
    (hb : w.heap[b]? = some (.cells C1 265 fz1)) (hv : w.heap[vb]? = some (.cells C2 265 fz2))
    (h1c : ∀ (j : Nat) (v : Value), j < n * 2 → C1[j]? = some v → v.oneCell = true) (h1v : ∀ (j : Nat) (v : Value), j < m * 2 → C2[j]? = some v → v.oneCell = true) (Q : Value → World → Prop)
    (hQ : ∀ (G : Nat) (R : Array Value) (w' : World), n + m ≤ G → R.size = G * 2 → (∀ j, j < i * 2 → R[j]? = C1[j]?) →
      w'.heap = (World.row (World.row (w.alloc (.cells R 265)) w.heap.size (.cells (splA R (i * 2) (C2.extract 0 (0 + m * 2)).toList) 265 (0, 0))) w.heap.size
        (.cells (splA (splA R (i * 2) (C2.extract 0 (0 + m * 2)).toList) ((i + m) * 2) (C1.extract (i * 2) (i * 2 + (n - i) * 2)).toList) 265 (0, 0))).heap → w'.os = w.os → w'.output = w.output →
      Q (.slice (some ⟨w.heap.size, 0, none⟩) (n + m) G) w') :
    Calls Tryz.prog 261 #[.slice (some ⟨b, 0, none⟩) n c, .int .i64 i, .slice (some ⟨vb, 0, none⟩) m vc] w fun x w' => ∃ v, x = .returned v ∧ Q v w' := by
  obtain ⟨i0, z, hi0, hz0, hzs, hzb, hzc⟩ := infoInsGroup
  have hz1 : ¬ ((m : Int) = 0) := by omega
  have hz2 : ¬ ((i : Int) = (n : Int)) := by omega
  have hz3 : (c : Int) < (n : Int) + (m : Int) := by omega
  have hbw : b < w.heap.size := (Array.getElem?_eq_some_iff.1 hb).1
  have hvw : vb < w.heap.size := (Array.getElem?_eq_some_iff.1 hv).1
  have hkk : (n : Int) + (m : Int) - (i : Int) = ((n + m - i : Nat) : Int) := by omega
  have hik : i + (n + m - i) = n + m := by omega
  have hold : (Builtin.firstCells i0.size i (.slice (some ⟨b, 0, none⟩) i c)).run Tryz.prog w.drew = .ok (C1.extract 0 (0 + i * 2)).toList.toArray w.drew := by
    rw [hzs]
    simp only [Builtin.firstCells]
    exact run_loadCells_at (w := w.drew) hb (by omega)
  have hrz : ∀ ty, (Builtin.append_ #[262, 3] ty #[.slice (some ⟨b, 0, none⟩) i c, .int .i64 ((n : Int) + (m : Int) - (i : Int))]).run Tryz.prog w =
      .ok (.slice (some ⟨w.heap.size, 0, none⟩) (n + m) (grownCap w (n + m) c 265)) (w.drew.alloc (.cells ((C1.extract 0 (0 + i * 2)).toList.toArray ++ Builtin.zeroCells z.cells (n + m - i) ++ Builtin.zeroCells z.cells (grownCap w (n + m) c 265 - (n + m))) 265)) := fun ty => by
    have h := Lib.run_append_grow_zeros w 262 3 ty 265 i0 z .i64 .i64 Tryz.underlying262 Tryz.underlying3 hi0 hz0 (some ⟨b, 0, none⟩) i c (C1.extract 0 (0 + i * 2)).toList hold (n + m - i) (by omega) (by omega) (by omega) (by omega) (by rw [hzb]; omega) (by rw [hzb, hik]; exact growslice_fits hroom (by omega))
    rw [hik] at h
    rw [hkk]
    exact h
  have hGn : n + m ≤ grownCap w (n + m) c 265 := grownCap_ge w _ _ _
  have hG63 : grownCap w (n + m) c 265 ≤ 9223372036854775807 := by
    have := grownCap_le_maxLen w (n + m) c 265 (by unfold maxLen; omega)
    unfold maxLen at this
    omega
  obtain ⟨G, hG⟩ : ∃ G, G = grownCap w (n + m) c 265 := ⟨_, rfl⟩
  rw [← hG] at hrz hGn hG63
  obtain ⟨R, hR⟩ : ∃ R : Array Value, R = (C1.extract 0 (0 + i * 2)).toList.toArray ++ Builtin.zeroCells z.cells (n + m - i) ++ Builtin.zeroCells z.cells (G - (n + m)) := ⟨_, rfl⟩
  rw [← hR] at hrz
  have hRs : R.size = G * 2 := by
    rw [hR]
    simp only [Array.size_append, size_zc', Array.toArray_toList, Array.size_extract, hzc]
    omega
  have hRl : ∀ j, j < i * 2 → R[j]? = C1[j]? := fun j hj => by
    rw [hR, Array.append_assoc, Array.getElem?_append_left (by simp; omega)]
    simp only [Array.toArray_toList, Array.getElem?_extract]
    rw [if_pos (by omega), Nat.zero_add]
  obtain ⟨R2, hR2⟩ : ∃ R2, R2 = splA R (i * 2) (C2.extract 0 (0 + m * 2)).toList := ⟨_, rfl⟩
  have hxl : (C2.extract 0 (0 + m * 2)).toList.length = m * 2 := by simp; omega
  have hR2s : R2.size = R.size := by rw [hR2]; exact splA_size _ _ _ (by omega)
  obtain ⟨R3, hR3⟩ : ∃ R3, R3 = splA R2 ((i + m) * 2) (C1.extract (i * 2) (i * 2 + (n - i) * 2)).toList := ⟨_, rfl⟩
  have hp : (w.alloc (.cells R 265)).heap[w.heap.size]? = some (.cells R 265 (0, 0)) := heap_push_eq _ _
  have hcpA : ∀ (W : World), W.heap = (w.alloc (.cells R 265)).heap → ∀ ty dc, (Builtin.copy_ #[262, 262] ty #[.slice (some ⟨w.heap.size, i * 2, none⟩) (n + m - i) dc, .slice (some ⟨vb, 0, none⟩) m vc]).run Tryz.prog W = .ok (goInt (m : Int)) (World.row W w.heap.size (.cells R2 265 (0, 0))) := fun W hW ty dc => by
    rw [hR2]
    exact run_copyB undInsGroup sizeInsGroup (by rw [hW]; exact hp) (fzOk00 _) (by rw [hW]; exact (Lib.alloc_old w _ vb hvw).trans hv) (by simp only [Nat.min_def]; split <;> omega) (by omega) (by omega) (fun j v hj hv => h1v _ v (by omega) (by simpa using hv))
  have hcpB : ∀ (W : World), W.heap = (World.row (w.alloc (.cells R 265)) w.heap.size (.cells R2 265 (0, 0))).heap → ∀ ty dc sc, (Builtin.copy_ #[262, 262] ty #[.slice (some ⟨w.heap.size, (i + m) * 2, none⟩) (n + m - (i + m)) dc, .slice (some ⟨b, i * 2, none⟩) (n - i) sc]).run Tryz.prog W = .ok (goInt ((n - i : Nat) : Int)) (World.row W w.heap.size (.cells R3 265 (0, 0))) := fun W hW ty dc sc => by
    rw [hR3]
    exact run_copyB undInsGroup sizeInsGroup (by rw [hW]; exact row_heap hp) (fzOk00 _) (by rw [hW, row_heap_ne _ _ (by omega)]; exact (Lib.alloc_old w _ b hbw).trans hb) (by simp only [Nat.min_def]; split <;> omega) (by omega) (by omega) (fun j v hj hv => h1c _ v (by omega) hv)
  have HQ := Lib.hid (fun w' h => hQ G R w' hGn hRs hRl h)
  rw [← hR2, ← hR3] at HQ
  have mixed : Tryz.prog.follows .mixedOrders = true := by kernel_rfl
  have hGi : ¬ (G = i) := by omega
  have hGim : ¬ (G = i + m) := by omega
  have hci : ¬ (c = i) := by omega
  have hbN : b ≠ w.heap.size := by omega
  have hw1 : IntKind.i64.wrap ((i : Int) + (m : Int)) = (i : Int) + (m : Int) := by rw [IntKind.wrap_i64]; omega
  have hw2 : IntKind.i64.wrap ((n : Int) + (m : Int)) = (n : Int) + (m : Int) := by rw [IntKind.wrap_i64]; omega
  have hw3 : IntKind.i64.wrap ((n : Int) + (m : Int) - (i : Int)) = (n : Int) + (m : Int) - (i : Int) := by rw [IntKind.wrap_i64]; omega
  have hb1 : (0 : Int) ≤ (i : Int) + (m : Int) := by omega
  have hin : i ≤ n := by omega
  have htn : ((i : Int) + (m : Int)).toNat = i + m := by omega
  have hb3 : (i : Int) ≤ (n : Int) := by omega
  have hb6 : (i : Int) + (m : Int) ≤ (n : Int) + (m : Int) := by omega
  clear hkk hik hold hR hRl hRs hR2 hR3 hR2s hp hxl hQ hG h1c h1v hb hv hcs hvs hbig hG63 hz0 hi0 hzs hzb hzc
  go_enter Tryz.func261, Tryz.ntmps261
  go_wp2_with (at_builtin; refine Lib.wpList_append_run _ rfl _ _ _ _ rfl _ _ rfl rfl _ _ (hrz _) ?_)
  rw [hcpA (w.alloc (.cells R 265)).drew rfl]
  simp only [Result.andThen]
  rw [Oper.upon_value]
  go_wp2
  go_region_law_o (refine step_copy_runI rfl _ _ 262 262 rfl (.slice (some ⟨w.heap.size, (i + m) * 2, none⟩) (n + m - (i + m)) (G - (i + m))) (.slice (some ⟨b, i * 2, none⟩) (n - i) (c - i)) (by simp [Act.eval, Act.put]) (by simp [Act.eval, Act.put]) (hcpB (World.row (w.alloc (.cells R 265)).drew w.heap.size (.cells R2 265 (0, 0))).drew rfl 3 (G - (i + m)) (c - i)) ?_)
  go_wp2
  go_ret
  exact ⟨_, rfl, HQ.out _ rfl rfl rfl⟩

theorem ins_callsGroup : InsCalls Tryz.prog 261 265 2 48 := by
  intro b n c i vb m vc C1 C2 fz1 fz2 w hi hm hnc hcs hvs hvb hb hf1 hv hf2 hf3 h1c h1v hbig
  have hbig : (n + m) * 48 ≤ 274877906944 := hbig
  have hx1 : (C1.extract (i * 2) (i * 2 + (n - i) * 2)).toList.length = (n - i) * 2 := by simp; omega
  have hx2 : (C2.extract 0 (0 + m * 2)).toList.length = m * 2 := by simp; omega
  have g1 : ∀ j, j < (n - i) * 2 → (C1.extract (i * 2) (i * 2 + (n - i) * 2)).toList[j]? = C1[i * 2 + j]? := fun j hj => by
    rw [Array.getElem?_toList, Array.getElem?_extract, if_pos (by omega)]
  have g2 : ∀ j, j < m * 2 → (C2.extract 0 (0 + m * 2)).toList[j]? = C2[j]? := fun j hj => by
    rw [Array.getElem?_toList, Array.getElem?_extract, if_pos (by omega), Nat.zero_add]
  by_cases hroom : n + m ≤ c
  · refine (insRoomGroup b n c i vb m vc C1 C2 fz1 fz2 w hi hm hroom hbig hcs hvs hvb hb hf1 hv hf2 hf3 h1c h1v).mono ?_
    rintro x w' ⟨rfl, rfl⟩
    have s1 : (splA C1 ((i + m) * 2) (C1.extract (i * 2) (i * 2 + (n - i) * 2)).toList).size = C1.size := splA_size _ _ _ (by omega)
    have s2 : (splA (splA C1 ((i + m) * 2) (C1.extract (i * 2) (i * 2 + (n - i) * 2)).toList) (i * 2) (C2.extract 0 (0 + m * 2)).toList).size = C1.size := by rw [splA_size _ _ _ (by omega), s1]
    refine ⟨b, c, _, rfl, hroom, by rw [s2]; exact hcs, .inl ⟨rfl, s2, by rw [row_row]; rfl⟩, rfl, rfl, fun j hj => ?_, fun j hj => ?_, fun j hj => ?_⟩
    · rw [splA_get _ _ _ (by omega), if_pos hj, splA_get _ _ _ (by omega), if_pos (by omega)]
    · rw [splA_get _ _ _ (by omega), if_neg (by omega), if_pos (by omega), Nat.add_sub_cancel_left, g2 j hj]
    · rw [splA_get _ _ _ (by omega), if_neg (by omega), if_neg (by omega), splA_get _ _ _ (by omega), if_neg (by omega), if_pos (by omega), show i * 2 + m * 2 + j - (i + m) * 2 = j by omega, g1 j hj]
  · refine (insGrowGroup b n c i vb m vc C1 C2 fz1 fz2 w hi hm hnc (by omega) hbig hcs hvs hb hv h1c h1v (fun v w' => ∃ (b' c' : Nat) (C' : Array Value), v = .slice (some ⟨b', 0, none⟩) (n + m) c' ∧ n + m ≤ c' ∧ c' * 2 ≤ C'.size ∧
        ((b' = b ∧ C'.size = C1.size ∧ w'.heap = (World.row w b (.cells C' 265 fz1)).heap) ∨ (b' = w.heap.size ∧ w'.heap = w.heap.push (.cells C' 265 (0, 0)))) ∧ w'.os = w.os ∧ w'.output = w.output ∧
        (∀ j, j < i * 2 → C'[j]? = C1[j]?) ∧ (∀ j, j < m * 2 → C'[i * 2 + j]? = C2[j]?) ∧ (∀ j, j < (n - i) * 2 → C'[i * 2 + m * 2 + j]? = C1[i * 2 + j]?)) ?_).mono ?_
    · intro G R w' hG hR hRl hh hos hout
      have s1 : (splA R (i * 2) (C2.extract 0 (0 + m * 2)).toList).size = R.size := splA_size _ _ _ (by omega)
      have s2 : (splA (splA R (i * 2) (C2.extract 0 (0 + m * 2)).toList) ((i + m) * 2) (C1.extract (i * 2) (i * 2 + (n - i) * 2)).toList).size = R.size := by rw [splA_size _ _ _ (by omega), s1]
      refine ⟨w.heap.size, G, _, rfl, hG, by rw [s2, hR]; exact Nat.le_refl _, .inr ⟨rfl, by rw [hh, row_row]; exact push_row w _ _⟩, hos, hout, fun j hj => ?_, fun j hj => ?_, fun j hj => ?_⟩
      · rw [splA_get _ _ _ (by omega), if_pos (by omega), splA_get _ _ _ (by omega), if_pos hj, hRl j hj]
      · rw [splA_get _ _ _ (by omega), if_pos (by omega), splA_get _ _ _ (by omega), if_neg (by omega), if_pos (by omega), Nat.add_sub_cancel_left, g2 j hj]
      · rw [splA_get _ _ _ (by omega), if_neg (by omega), if_pos (by omega), show i * 2 + m * 2 + j - (i + m) * 2 = j by omega, g1 j hj]
    · rintro x w' ⟨v, rfl, b', c', C', rfl, h⟩
      exact ⟨b', c', C', rfl, h⟩

theorem mkGroup : Gl.mark 265 = false := by kernel_rfl
def insEGroup : Ent := fun a o => match a, o with
  | [.sl 0 sz 0 n none, .d (.int .i64 i), .sl 1 sz2 0 m _], .rar e cs :: .rar e2 cs2 :: r =>
    bif Nat.beq sz 2 && Nat.beq sz2 2 && Nat.beq e 265 && Nat.beq e2 265 && Nat.blt i.toNat n && Nat.ble 1 m && Nat.ble (n * 2) cs.length && Nat.ble (m * 2) cs2.length && Nat.ble (n + m) 1000000 then
      some (.sl (r.length + 2) 2 0 (n + m) none, .gone :: .rar 265 cs2 :: r ++ [.rar 265 (cs.take (i.toNat * 2) ++ cs2.take (m * 2) ++ (cs.drop (i.toNat * 2)).take ((n - i.toNat) * 2))], [decide (0 ≤ i)]) else none
  | _, _ => none
theorem ins_entGroup : EntOk Tryz.prog 261 insEGroup := by
  intro a o r o' c hg hc
  unfold insEGroup at hg
  split at hg
  · rename_i sz n i sz2 m k e cs e2 cs2 rr
    rw [cond_eq_ite] at hg
    split at hg <;> rename_i hcond
    · simp only [Option.some.injEq, Prod.mk.injEq] at hg
      obtain ⟨rfl, rfl, rfl⟩ := hg
      simp only [Bool.and_eq_true] at hcond
      obtain ⟨⟨⟨⟨⟨⟨⟨⟨k1, k2⟩, k3⟩, k4⟩, k5⟩, k6⟩, k7⟩, k8⟩, k9⟩ := hcond
      have := nbE k1; subst this
      have := nbE k2; subst this
      have := nbE k3; subst this
      have := nbE k4; subst this
      have k5 : i.toNat < n := Nat.le_of_ble_eq_true k5
      have k6 := Nat.le_of_ble_eq_true k6
      have k7 := Nat.le_of_ble_eq_true k7
      have k8 := Nat.le_of_ble_eq_true k8
      have k9 := Nat.le_of_ble_eq_true k9
      have h0 : 0 ≤ i := by simpa using hc (decide (0 ≤ i)) (by simp)
      have := ins_c (k := k) (cs := cs) (cs2 := cs2) (r := rr) ins_callsGroup mkGroup k5 k6 k7 k8 (by show (n + m) * 48 ≤ 274877906944; omega)
      rw [Int.toNat_of_nonneg h0] at this
      exact this
    · cases hg
  · cases hg
end Go.Proofs.YtadndmmhpkmjeaaGreatDoor
