/-
  slices.Insert at the program's rows of structs: the walk of Go's own text, and the contract.
-/
import Derived.Test.YtiiookmnofhlmaaGreatDoorAmE
import Derived.Test.YtiiookmnofhlmaaGreatDoorNa
import Derived.Shelf.Spec.SlicesInsertGrow

namespace Go.Proofs.YtiiookmnofhlmaaGreatDoor
open Go.RowKit Am Go.Lib
set_option maxRecDepth 100000

theorem drew_heap (w : World) : w.drew.heap = w.heap := rfl
theorem shape_of_heap {w : World} {b : Nat} {C : Array Value} {T : TypeId} {fz : Nat × Nat} (h : w.heap[b]? = some (.cells C T fz)) : w.shape? b = some (T, C.size) := by
  unfold World.shape?; rw [h]
theorem push_row (w : World) (o o' : Obj) : (World.row (w.alloc o) w.heap.size o').heap = w.heap.push o' := by
  simp only [World.row, World.alloc]
  apply Array.ext'
  simp [Array.toList_push, Array.toList_setIfInBounds]
theorem size_zc' (z : Array Value) (n : Nat) : (Builtin.zeroCells z n).size = n * z.size := by simp [Builtin.zeroCells]
theorem frozen_of_fz {w : World} {b o : Nat} {C : Array Value} {T : TypeId} {fz : Nat × Nat} (h : w.heap[b]? = some (.cells C T fz)) (hf : ¬ (fz.1 ≤ o ∧ o < fz.2)) : w.frozen? ⟨b, o, none⟩ = false := by
  unfold World.frozen?; rw [h]
  obtain ⟨lo, hi⟩ := fz
  simp only [Bool.and_eq_false_iff, decide_eq_false_iff_not]
  simp only at hf
  omega

theorem undInsCell : (Env.of Tryz.prog).und 328 = some (.slice 336) := by kernel_rfl
theorem sizeInsCell : (Env.of Tryz.prog).size 336 = some 4 := by kernel_rfl
theorem infoInsCell : ∃ i z, Tryz.prog.info? 336 = some i ∧ i.zero = some z ∧ i.size = 4 ∧ i.bytes = 48 ∧ z.cells.size = 4 := by
  have h : (Tryz.prog.info? 336).bind (fun i => i.zero.map fun z => (Nat.beq i.size 4 && Nat.beq i.bytes 48 && Nat.beq z.cells.size 4)) = some true := by kernel_rfl
  cases hi : Tryz.prog.info? 336 with
  | none => rw [hi] at h; cases h
  | some i =>
    rw [hi] at h
    cases hz : i.zero with
    | none => simp [hz] at h
    | some z =>
      simp only [Option.bind_some, hz, Option.map_some, Option.some.injEq, Bool.and_eq_true] at h
      exact ⟨i, z, rfl, hz, nbE h.1.1, nbE h.1.2, nbE h.2⟩

set_option maxHeartbeats 4000000 in
theorem insRoomCell (b n c i vb m vc : Nat) (C1 C2 : Array Value) (fz1 fz2 : Nat × Nat) (w : World) (hi : i < n) (hm : 1 ≤ m) (hroom : n + m ≤ c) (hbig : (n + m) * 48 ≤ 274877906944) (hcs : c * 4 ≤ C1.size) (hvs : m * 4 ≤ C2.size) (hvb : vb ≠ b)
    (hb : w.heap[b]? = some (.cells C1 336 fz1)) (hf1 : FzOk fz1 C1.size) (hv : w.heap[vb]? = some (.cells C2 336 fz2)) (hf2 : FzOk fz2 C2.size) (hf3 : fz2.2 ≤ C2.size)
    (h1c : ∀ (j : Nat) (v : Value), j < n * 4 → C1[j]? = some v → v.oneCell = true) (h1v : ∀ (j : Nat) (v : Value), j < m * 4 → C2[j]? = some v → v.oneCell = true) :
    Calls Tryz.prog 337 #[.slice (some ⟨b, 0, none⟩) n c, .int .i64 i, .slice (some ⟨vb, 0, none⟩) m vc] w fun x w' =>
      x = .returned (.slice (some ⟨b, 0, none⟩) (n + m) c) ∧
      w' = World.row (World.row w.drew b (.cells (splA C1 ((i + m) * 4) (C1.extract (i * 4) (i * 4 + (n - i) * 4)).toList) 336 fz1)) b
        (.cells (splA (splA C1 ((i + m) * 4) (C1.extract (i * 4) (i * 4 + (n - i) * 4)).toList) (i * 4) (C2.extract 0 (0 + m * 4)).toList) 336 fz1) := by
  have hz1 : ¬ ((m : Int) = 0) := by omega
  have hz2 : ¬ ((i : Int) = (n : Int)) := by omega
  have hov : ∀ lb cb, (callFunc 418 #[.slice (some ⟨vb, 0, none⟩) m vc, .slice (some ⟨b, (i + m) * 4, none⟩) lb cb]).run Tryz.prog w = .ok (.value (.bool false)) w := fun lb cb => by
    rw [run_callFunc_extern Tryz.func418 (by kernel_rfl) (by kernel_rfl) (by kernel_rfl) (e := Extern.SlicesOverlaps.overlaps #[328, 328] #[4]) (by kernel_rfl),
      Lib.run_overlaps_apart w 328 4 336 Tryz.underlying328 4 (run_sizeOf' sizeInsCell) ⟨vb, 0, none⟩ ⟨b, (i + m) * 4, none⟩ m vc lb cb hvb 336 336 C2.size C1.size (shape_of_heap hv) (shape_of_heap hb) (by omega)
        (frozen_of_fz hv (hf2 0 (by omega))) (frozen_of_fz hv (by omega))]
    rfl
  obtain ⟨C', hC'⟩ : ∃ C', C' = splA C1 ((i + m) * 4) (C1.extract (i * 4) (i * 4 + (n - i) * 4)).toList := ⟨_, rfl⟩
  have hexl : (C1.extract (i * 4) (i * 4 + (n - i) * 4)).toList.length = (n - i) * 4 := by simp; omega
  have hC's : C'.size = C1.size := by rw [hC']; exact splA_size _ _ _ (by omega)
  have hcp1 : ∀ ty dc sc, (Builtin.copy_ #[328, 328] ty #[.slice (some ⟨b, (i + m) * 4, none⟩) (n + m - (i + m)) dc, .slice (some ⟨b, i * 4, none⟩) (n + m - i) sc]).run Tryz.prog w.drew = .ok (goInt ((n - i : Nat) : Int)) (World.row w.drew b (.cells C' 336 fz1)) := fun ty dc sc => by
    rw [hC']
    exact run_copyB undInsCell sizeInsCell (w := w.drew) hb hf1 hb (by simp only [Nat.min_def]; split <;> omega) (by omega) (by omega) (fun j v hj hv => h1c _ v (by omega) hv)
  obtain ⟨C'', hC''⟩ : ∃ C'', C'' = splA C' (i * 4) (C2.extract 0 (0 + m * 4)).toList := ⟨_, rfl⟩
  have hcp2 : ∀ (W : World), W = World.row w.drew b (.cells C' 336 fz1) → ∀ ty dc, (Builtin.copy_ #[328, 328] ty #[.slice (some ⟨b, i * 4, none⟩) (n + m - i) dc, .slice (some ⟨vb, 0, none⟩) m vc]).run Tryz.prog W = .ok (goInt (m : Int)) (World.row W b (.cells C'' 336 fz1)) := fun W hW ty dc => by
    rw [hC'']
    subst hW
    exact run_copyB undInsCell sizeInsCell (row_heap (w := w.drew) hb) (by rw [hC's]; exact hf1) ((row_heap_ne w.drew _ hvb).trans hv) (by simp only [Nat.min_def]; split <;> omega) (by omega) (by omega) (fun j v hj hv => h1v _ v (by omega) (by simpa using hv))
  rw [← hC', ← hC'']
  have mixed : Tryz.prog.follows .mixedOrders = true := by kernel_rfl
  have hw1 : IntKind.i64.wrap ((i : Int) + (m : Int)) = (i : Int) + (m : Int) := by rw [IntKind.wrap_i64]; omega
  have hw2 : IntKind.i64.wrap ((n : Int) + (m : Int)) = (n : Int) + (m : Int) := by rw [IntKind.wrap_i64]; omega
  have hb1 : (0 : Int) ≤ (i : Int) + (m : Int) := by omega
  have hb5 : (0 : Int) ≤ (n : Int) + (m : Int) := by omega
  have hin : i ≤ n := by omega
  have htn : ((i : Int) + (m : Int)).toNat = i + m := by omega
  have htn2 : ((n : Int) + (m : Int)).toNat = n + m := by omega
  have hb2 : ¬ (c = i + m) := by omega
  have hb3 : (i : Int) ≤ (n : Int) + (m : Int) := by omega
  have hb4 : ¬ (c = i) := by omega
  clear hexl hC's hC' hC'' h1c h1v hf1 hf2 hf3 hb hv hcs hvs hbig
  go_enter Tryz.func337, Tryz.ntmps337
  go_wp2_with (simp only [hov])
  go_region_law_o (refine step_copy_runI rfl _ _ 328 328 rfl _ _ (by simp [Act.eval, Act.put]) (by simp [Act.eval, Act.put]) (hcp1 _ _ _) ?_)
  go_wp2_with (at_builtin; refine wpList_copy_runI _ rfl _ _ 328 328 rfl _ _ rfl rfl (hcp2 _ rfl _ _) ?_)
  go_ret
  exact ⟨rfl, rfl⟩

set_option maxHeartbeats 4000000 in
theorem insGrowCell (b n c i vb m vc : Nat) (C1 C2 : Array Value) (fz1 fz2 : Nat × Nat) (w : World) (hi : i < n) (hm : 1 ≤ m) (hnc : n ≤ c) (hroom : c < n + m) (hbig : (n + m) * 48 ≤ 274877906944) (hcs : c * 4 ≤ C1.size) (hvs : m * 4 ≤ C2.size)
    (hb : w.heap[b]? = some (.cells C1 336 fz1)) (hv : w.heap[vb]? = some (.cells C2 336 fz2))
    (h1c : ∀ (j : Nat) (v : Value), j < n * 4 → C1[j]? = some v → v.oneCell = true) (h1v : ∀ (j : Nat) (v : Value), j < m * 4 → C2[j]? = some v → v.oneCell = true) (Q : Value → World → Prop)
    (hQ : ∀ (G : Nat) (R : Array Value) (w' : World), n + m ≤ G → R.size = G * 4 → (∀ j, j < i * 4 → R[j]? = C1[j]?) →
      w'.heap = (World.row (World.row (w.alloc (.cells R 336)) w.heap.size (.cells (splA R (i * 4) (C2.extract 0 (0 + m * 4)).toList) 336 (0, 0))) w.heap.size
        (.cells (splA (splA R (i * 4) (C2.extract 0 (0 + m * 4)).toList) ((i + m) * 4) (C1.extract (i * 4) (i * 4 + (n - i) * 4)).toList) 336 (0, 0))).heap → w'.os = w.os → w'.output = w.output →
      Q (.slice (some ⟨w.heap.size, 0, none⟩) (n + m) G) w') :
    Calls Tryz.prog 337 #[.slice (some ⟨b, 0, none⟩) n c, .int .i64 i, .slice (some ⟨vb, 0, none⟩) m vc] w fun x w' => ∃ v, x = .returned v ∧ Q v w' := by
  obtain ⟨i0, z, hi0, hz0, hzs, hzb, hzc⟩ := infoInsCell
  have hz1 : ¬ ((m : Int) = 0) := by omega
  have hz2 : ¬ ((i : Int) = (n : Int)) := by omega
  have hz3 : (c : Int) < (n : Int) + (m : Int) := by omega
  have hbw : b < w.heap.size := (Array.getElem?_eq_some_iff.1 hb).1
  have hvw : vb < w.heap.size := (Array.getElem?_eq_some_iff.1 hv).1
  have hkk : (n : Int) + (m : Int) - (i : Int) = ((n + m - i : Nat) : Int) := by omega
  have hik : i + (n + m - i) = n + m := by omega
  have hold : (Builtin.firstCells i0.size i (.slice (some ⟨b, 0, none⟩) i c)).run Tryz.prog w.drew = .ok (C1.extract 0 (0 + i * 4)).toList.toArray w.drew := by
    rw [hzs]
    simp only [Builtin.firstCells]
    exact run_loadCells_at (w := w.drew) hb (by omega)
  have hrz : ∀ ty, (Builtin.append_ #[328, 3] ty #[.slice (some ⟨b, 0, none⟩) i c, .int .i64 ((n : Int) + (m : Int) - (i : Int))]).run Tryz.prog w =
      .ok (.slice (some ⟨w.heap.size, 0, none⟩) (n + m) (grownCap w (n + m) c 336)) (w.drew.alloc (.cells ((C1.extract 0 (0 + i * 4)).toList.toArray ++ Builtin.zeroCells z.cells (n + m - i) ++ Builtin.zeroCells z.cells (grownCap w (n + m) c 336 - (n + m))) 336)) := fun ty => by
    have h := Lib.run_append_grow_zeros w 328 3 ty 336 i0 z .i64 .i64 Tryz.underlying328 Tryz.underlying3 hi0 hz0 (some ⟨b, 0, none⟩) i c (C1.extract 0 (0 + i * 4)).toList hold (n + m - i) (by omega) (by omega) (by omega) (by omega) (by rw [hzb]; omega) (by rw [hzb, hik]; exact growslice_fits hroom (by omega))
    rw [hik] at h
    rw [hkk]
    exact h
  have hGn : n + m ≤ grownCap w (n + m) c 336 := grownCap_ge w _ _ _
  have hG63 : grownCap w (n + m) c 336 ≤ 9223372036854775807 := by
    have := grownCap_le_maxLen w (n + m) c 336 (by unfold maxLen; omega)
    unfold maxLen at this
    omega
  obtain ⟨G, hG⟩ : ∃ G, G = grownCap w (n + m) c 336 := ⟨_, rfl⟩
  rw [← hG] at hrz hGn hG63
  obtain ⟨R, hR⟩ : ∃ R : Array Value, R = (C1.extract 0 (0 + i * 4)).toList.toArray ++ Builtin.zeroCells z.cells (n + m - i) ++ Builtin.zeroCells z.cells (G - (n + m)) := ⟨_, rfl⟩
  rw [← hR] at hrz
  have hRs : R.size = G * 4 := by
    rw [hR]
    simp only [Array.size_append, size_zc', Array.toArray_toList, Array.size_extract, hzc]
    omega
  have hRl : ∀ j, j < i * 4 → R[j]? = C1[j]? := fun j hj => by
    rw [hR, Array.append_assoc, Array.getElem?_append_left (by simp; omega)]
    simp only [Array.toArray_toList, Array.getElem?_extract]
    rw [if_pos (by omega), Nat.zero_add]
  obtain ⟨R2, hR2⟩ : ∃ R2, R2 = splA R (i * 4) (C2.extract 0 (0 + m * 4)).toList := ⟨_, rfl⟩
  have hxl : (C2.extract 0 (0 + m * 4)).toList.length = m * 4 := by simp; omega
  have hR2s : R2.size = R.size := by rw [hR2]; exact splA_size _ _ _ (by omega)
  obtain ⟨R3, hR3⟩ : ∃ R3, R3 = splA R2 ((i + m) * 4) (C1.extract (i * 4) (i * 4 + (n - i) * 4)).toList := ⟨_, rfl⟩
  have hp : (w.alloc (.cells R 336)).heap[w.heap.size]? = some (.cells R 336 (0, 0)) := heap_push_eq _ _
  have hcpA : ∀ (W : World), W.heap = (w.alloc (.cells R 336)).heap → ∀ ty dc, (Builtin.copy_ #[328, 328] ty #[.slice (some ⟨w.heap.size, i * 4, none⟩) (n + m - i) dc, .slice (some ⟨vb, 0, none⟩) m vc]).run Tryz.prog W = .ok (goInt (m : Int)) (World.row W w.heap.size (.cells R2 336 (0, 0))) := fun W hW ty dc => by
    rw [hR2]
    exact run_copyB undInsCell sizeInsCell (by rw [hW]; exact hp) (fzOk00 _) (by rw [hW]; exact (Lib.alloc_old w _ vb hvw).trans hv) (by simp only [Nat.min_def]; split <;> omega) (by omega) (by omega) (fun j v hj hv => h1v _ v (by omega) (by simpa using hv))
  have hcpB : ∀ (W : World), W.heap = (World.row (w.alloc (.cells R 336)) w.heap.size (.cells R2 336 (0, 0))).heap → ∀ ty dc sc, (Builtin.copy_ #[328, 328] ty #[.slice (some ⟨w.heap.size, (i + m) * 4, none⟩) (n + m - (i + m)) dc, .slice (some ⟨b, i * 4, none⟩) (n - i) sc]).run Tryz.prog W = .ok (goInt ((n - i : Nat) : Int)) (World.row W w.heap.size (.cells R3 336 (0, 0))) := fun W hW ty dc sc => by
    rw [hR3]
    exact run_copyB undInsCell sizeInsCell (by rw [hW]; exact row_heap hp) (fzOk00 _) (by rw [hW, row_heap_ne _ _ (by omega)]; exact (Lib.alloc_old w _ b hbw).trans hb) (by simp only [Nat.min_def]; split <;> omega) (by omega) (by omega) (fun j v hj hv => h1c _ v (by omega) hv)
  have HQ := Lib.hid (fun w' h => hQ G R w' hGn hRs hRl h)
  rw [← hR2, ← hR3] at HQ
  have mixed : Tryz.prog.follows .mixedOrders = true := by kernel_rfl
  have hGi : ¬ (G = i) := by omega
  have hGim : ¬ (G = i + m) := by omega
  have hci : ¬ (c = i) := by omega
  have hbN : b ≠ w.heap.size := by omega
  have hw1 : IntKind.i64.wrap ((i : Int) + (m : Int)) = (i : Int) + (m : Int) := by rw [IntKind.wrap_i64]; omega
  have hw2 : IntKind.i64.wrap ((n : Int) + (m : Int)) = (n : Int) + (m : Int) := by rw [IntKind.wrap_i64]; omega
  have hw3 : IntKind.i64.wrap ((n : Int) + (m : Int) - (i : Int)) = (n : Int) + (m : Int) - (i : Int) := by rw [IntKind.wrap_i64]; omega
  have hb1 : (0 : Int) ≤ (i : Int) + (m : Int) := by omega
  have hin : i ≤ n := by omega
  have htn : ((i : Int) + (m : Int)).toNat = i + m := by omega
  have hb3 : (i : Int) ≤ (n : Int) := by omega
  have hb6 : (i : Int) + (m : Int) ≤ (n : Int) + (m : Int) := by omega
  clear hkk hik hold hR hRl hRs hR2 hR3 hR2s hp hxl hQ hG h1c h1v hb hv hcs hvs hbig hG63 hz0 hi0 hzs hzb hzc
  go_enter Tryz.func337, Tryz.ntmps337
  go_wp2_with (at_builtin; refine Lib.wpList_append_run _ rfl _ _ _ _ rfl _ _ rfl rfl _ _ (hrz _) ?_)
  rw [hcpA (w.alloc (.cells R 336)).drew rfl]
  simp only [Result.andThen]
  rw [Oper.upon_value]
  go_wp2
  go_region_law_o (refine step_copy_runI rfl _ _ 328 328 rfl (.slice (some ⟨w.heap.size, (i + m) * 4, none⟩) (n + m - (i + m)) (G - (i + m))) (.slice (some ⟨b, i * 4, none⟩) (n - i) (c - i)) (by simp [Act.eval, Act.put]) (by simp [Act.eval, Act.put]) (hcpB (World.row (w.alloc (.cells R 336)).drew w.heap.size (.cells R2 336 (0, 0))).drew rfl 3 (G - (i + m)) (c - i)) ?_)
  go_wp2
  go_ret
  exact ⟨_, rfl, HQ.out _ rfl rfl rfl⟩

theorem ins_callsCell : InsCalls Tryz.prog 337 336 4 48 := by
  intro b n c i vb m vc C1 C2 fz1 fz2 w hi hm hnc hcs hvs hvb hb hf1 hv hf2 hf3 h1c h1v hbig
  have hbig : (n + m) * 48 ≤ 274877906944 := hbig
  have hx1 : (C1.extract (i * 4) (i * 4 + (n - i) * 4)).toList.length = (n - i) * 4 := by simp; omega
  have hx2 : (C2.extract 0 (0 + m * 4)).toList.length = m * 4 := by simp; omega
  have g1 : ∀ j, j < (n - i) * 4 → (C1.extract (i * 4) (i * 4 + (n - i) * 4)).toList[j]? = C1[i * 4 + j]? := fun j hj => by
    rw [Array.getElem?_toList, Array.getElem?_extract, if_pos (by omega)]
  have g2 : ∀ j, j < m * 4 → (C2.extract 0 (0 + m * 4)).toList[j]? = C2[j]? := fun j hj => by
    rw [Array.getElem?_toList, Array.getElem?_extract, if_pos (by omega), Nat.zero_add]
  by_cases hroom : n + m ≤ c
  · refine (insRoomCell b n c i vb m vc C1 C2 fz1 fz2 w hi hm hroom hbig hcs hvs hvb hb hf1 hv hf2 hf3 h1c h1v).mono ?_
    rintro x w' ⟨rfl, rfl⟩
    have s1 : (splA C1 ((i + m) * 4) (C1.extract (i * 4) (i * 4 + (n - i) * 4)).toList).size = C1.size := splA_size _ _ _ (by omega)
    have s2 : (splA (splA C1 ((i + m) * 4) (C1.extract (i * 4) (i * 4 + (n - i) * 4)).toList) (i * 4) (C2.extract 0 (0 + m * 4)).toList).size = C1.size := by rw [splA_size _ _ _ (by omega), s1]
    refine ⟨b, c, _, rfl, hroom, by rw [s2]; exact hcs, .inl ⟨rfl, s2, by rw [row_row]; rfl⟩, rfl, rfl, fun j hj => ?_, fun j hj => ?_, fun j hj => ?_⟩
    · rw [splA_get _ _ _ (by omega), if_pos hj, splA_get _ _ _ (by omega), if_pos (by omega)]
    · rw [splA_get _ _ _ (by omega), if_neg (by omega), if_pos (by omega), Nat.add_sub_cancel_left, g2 j hj]
    · rw [splA_get _ _ _ (by omega), if_neg (by omega), if_neg (by omega), splA_get _ _ _ (by omega), if_neg (by omega), if_pos (by omega), show i * 4 + m * 4 + j - (i + m) * 4 = j by omega, g1 j hj]
  · refine (insGrowCell b n c i vb m vc C1 C2 fz1 fz2 w hi hm hnc (by omega) hbig hcs hvs hb hv h1c h1v (fun v w' => ∃ (b' c' : Nat) (C' : Array Value), v = .slice (some ⟨b', 0, none⟩) (n + m) c' ∧ n + m ≤ c' ∧ c' * 4 ≤ C'.size ∧
        ((b' = b ∧ C'.size = C1.size ∧ w'.heap = (World.row w b (.cells C' 336 fz1)).heap) ∨ (b' = w.heap.size ∧ w'.heap = w.heap.push (.cells C' 336 (0, 0)))) ∧ w'.os = w.os ∧ w'.output = w.output ∧
        (∀ j, j < i * 4 → C'[j]? = C1[j]?) ∧ (∀ j, j < m * 4 → C'[i * 4 + j]? = C2[j]?) ∧ (∀ j, j < (n - i) * 4 → C'[i * 4 + m * 4 + j]? = C1[i * 4 + j]?)) ?_).mono ?_
    · intro G R w' hG hR hRl hh hos hout
      have s1 : (splA R (i * 4) (C2.extract 0 (0 + m * 4)).toList).size = R.size := splA_size _ _ _ (by omega)
      have s2 : (splA (splA R (i * 4) (C2.extract 0 (0 + m * 4)).toList) ((i + m) * 4) (C1.extract (i * 4) (i * 4 + (n - i) * 4)).toList).size = R.size := by rw [splA_size _ _ _ (by omega), s1]
      refine ⟨w.heap.size, G, _, rfl, hG, by rw [s2, hR]; exact Nat.le_refl _, .inr ⟨rfl, by rw [hh, row_row]; exact push_row w _ _⟩, hos, hout, fun j hj => ?_, fun j hj => ?_, fun j hj => ?_⟩
      · rw [splA_get _ _ _ (by omega), if_pos (by omega), splA_get _ _ _ (by omega), if_pos hj, hRl j hj]
      · rw [splA_get _ _ _ (by omega), if_pos (by omega), splA_get _ _ _ (by omega), if_neg (by omega), if_pos (by omega), Nat.add_sub_cancel_left, g2 j hj]
      · rw [splA_get _ _ _ (by omega), if_neg (by omega), if_pos (by omega), show i * 4 + m * 4 + j - (i + m) * 4 = j by omega, g1 j hj]
    · rintro x w' ⟨v, rfl, b', c', C', rfl, h⟩
      exact ⟨b', c', C', rfl, h⟩

theorem mkCell : Gl.mark 336 = false := by kernel_rfl
def insECell : Ent := fun a o => match a, o with
  | [.sl 0 sz 0 n none, .d (.int .i64 i), .sl 1 sz2 0 m _], .rar e cs :: .rar e2 cs2 :: r =>
    bif Nat.beq sz 4 && Nat.beq sz2 4 && Nat.beq e 336 && Nat.beq e2 336 && Nat.blt i.toNat n && Nat.ble 1 m && Nat.ble (n * 4) cs.length && Nat.ble (m * 4) cs2.length && Nat.ble (n + m) 1000000 then
      some (.sl (r.length + 2) 4 0 (n + m) none, .gone :: .rar 336 cs2 :: r ++ [.rar 336 (cs.take (i.toNat * 4) ++ cs2.take (m * 4) ++ (cs.drop (i.toNat * 4)).take ((n - i.toNat) * 4))], [decide (0 ≤ i)]) else none
  | _, _ => none
theorem ins_entCell : EntOk Tryz.prog 337 insECell := by
  intro a o r o' c hg hc
  unfold insECell at hg
  split at hg
  · rename_i sz n i sz2 m k e cs e2 cs2 rr
    rw [cond_eq_ite] at hg
    split at hg <;> rename_i hcond
    · simp only [Option.some.injEq, Prod.mk.injEq] at hg
      obtain ⟨rfl, rfl, rfl⟩ := hg
      simp only [Bool.and_eq_true] at hcond
      obtain ⟨⟨⟨⟨⟨⟨⟨⟨k1, k2⟩, k3⟩, k4⟩, k5⟩, k6⟩, k7⟩, k8⟩, k9⟩ := hcond
      have := nbE k1; subst this
      have := nbE k2; subst this
      have := nbE k3; subst this
      have := nbE k4; subst this
      have k5 : i.toNat < n := Nat.le_of_ble_eq_true k5
      have k6 := Nat.le_of_ble_eq_true k6
      have k7 := Nat.le_of_ble_eq_true k7
      have k8 := Nat.le_of_ble_eq_true k8
      have k9 := Nat.le_of_ble_eq_true k9
      have h0 : 0 ≤ i := by simpa using hc (decide (0 ≤ i)) (by simp)
      have := ins_c (k := k) (cs := cs) (cs2 := cs2) (r := rr) ins_callsCell mkCell k5 k6 k7 k8 (by show (n + m) * 48 ≤ 274877906944; omega)
      rw [Int.toNat_of_nonneg h0] at this
      exact this
    · cases hg
  · cases hg

theorem undInsTable : (Env.of Tryz.prog).und 103 = some (.slice 67) := by kernel_rfl
theorem sizeInsTable : (Env.of Tryz.prog).size 67 = some 4 := by kernel_rfl
theorem infoInsTable : ∃ i z, Tryz.prog.info? 67 = some i ∧ i.zero = some z ∧ i.size = 4 ∧ i.bytes = 88 ∧ z.cells.size = 4 := by
  have h : (Tryz.prog.info? 67).bind (fun i => i.zero.map fun z => (Nat.beq i.size 4 && Nat.beq i.bytes 88 && Nat.beq z.cells.size 4)) = some true := by kernel_rfl
  cases hi : Tryz.prog.info? 67 with
  | none => rw [hi] at h; cases h
  | some i =>
    rw [hi] at h
    cases hz : i.zero with
    | none => simp [hz] at h
    | some z =>
      simp only [Option.bind_some, hz, Option.map_some, Option.some.injEq, Bool.and_eq_true] at h
      exact ⟨i, z, rfl, hz, nbE h.1.1, nbE h.1.2, nbE h.2⟩

set_option maxHeartbeats 4000000 in
theorem insRoomTable (b n c i vb m vc : Nat) (C1 C2 : Array Value) (fz1 fz2 : Nat × Nat) (w : World) (hi : i < n) (hm : 1 ≤ m) (hroom : n + m ≤ c) (hbig : (n + m) * 88 ≤ 274877906944) (hcs : c * 4 ≤ C1.size) (hvs : m * 4 ≤ C2.size) (hvb : vb ≠ b)
    (hb : w.heap[b]? = some (.cells C1 67 fz1)) (hf1 : FzOk fz1 C1.size) (hv : w.heap[vb]? = some (.cells C2 67 fz2)) (hf2 : FzOk fz2 C2.size) (hf3 : fz2.2 ≤ C2.size)
    (h1c : ∀ (j : Nat) (v : Value), j < n * 4 → C1[j]? = some v → v.oneCell = true) (h1v : ∀ (j : Nat) (v : Value), j < m * 4 → C2[j]? = some v → v.oneCell = true) :
    Calls Tryz.prog 151 #[.slice (some ⟨b, 0, none⟩) n c, .int .i64 i, .slice (some ⟨vb, 0, none⟩) m vc] w fun x w' =>
      x = .returned (.slice (some ⟨b, 0, none⟩) (n + m) c) ∧
      w' = World.row (World.row w.drew b (.cells (splA C1 ((i + m) * 4) (C1.extract (i * 4) (i * 4 + (n - i) * 4)).toList) 67 fz1)) b
        (.cells (splA (splA C1 ((i + m) * 4) (C1.extract (i * 4) (i * 4 + (n - i) * 4)).toList) (i * 4) (C2.extract 0 (0 + m * 4)).toList) 67 fz1) := by
  have hz1 : ¬ ((m : Int) = 0) := by omega
  have hz2 : ¬ ((i : Int) = (n : Int)) := by omega
  have hov : ∀ lb cb, (callFunc 246 #[.slice (some ⟨vb, 0, none⟩) m vc, .slice (some ⟨b, (i + m) * 4, none⟩) lb cb]).run Tryz.prog w = .ok (.value (.bool false)) w := fun lb cb => by
    rw [run_callFunc_extern Tryz.func246 (by kernel_rfl) (by kernel_rfl) (by kernel_rfl) (e := Extern.SlicesOverlaps.overlaps #[103, 103] #[4]) (by kernel_rfl),
      Lib.run_overlaps_apart w 103 4 67 Tryz.underlying103 4 (run_sizeOf' sizeInsTable) ⟨vb, 0, none⟩ ⟨b, (i + m) * 4, none⟩ m vc lb cb hvb 67 67 C2.size C1.size (shape_of_heap hv) (shape_of_heap hb) (by omega)
        (frozen_of_fz hv (hf2 0 (by omega))) (frozen_of_fz hv (by omega))]
    rfl
  obtain ⟨C', hC'⟩ : ∃ C', C' = splA C1 ((i + m) * 4) (C1.extract (i * 4) (i * 4 + (n - i) * 4)).toList := ⟨_, rfl⟩
  have hexl : (C1.extract (i * 4) (i * 4 + (n - i) * 4)).toList.length = (n - i) * 4 := by simp; omega
  have hC's : C'.size = C1.size := by rw [hC']; exact splA_size _ _ _ (by omega)
  have hcp1 : ∀ ty dc sc, (Builtin.copy_ #[103, 103] ty #[.slice (some ⟨b, (i + m) * 4, none⟩) (n + m - (i + m)) dc, .slice (some ⟨b, i * 4, none⟩) (n + m - i) sc]).run Tryz.prog w.drew = .ok (goInt ((n - i : Nat) : Int)) (World.row w.drew b (.cells C' 67 fz1)) := fun ty dc sc => by
    rw [hC']
    exact run_copyB undInsTable sizeInsTable (w := w.drew) hb hf1 hb (by simp only [Nat.min_def]; split <;> omega) (by omega) (by omega) (fun j v hj hv => h1c _ v (by omega) hv)
  obtain ⟨C'', hC''⟩ : ∃ C'', C'' = splA C' (i * 4) (C2.extract 0 (0 + m * 4)).toList := ⟨_, rfl⟩
  have hcp2 : ∀ (W : World), W = World.row w.drew b (.cells C' 67 fz1) → ∀ ty dc, (Builtin.copy_ #[103, 103] ty #[.slice (some ⟨b, i * 4, none⟩) (n + m - i) dc, .slice (some ⟨vb, 0, none⟩) m vc]).run Tryz.prog W = .ok (goInt (m : Int)) (World.row W b (.cells C'' 67 fz1)) := fun W hW ty dc => by
    rw [hC'']
    subst hW
    exact run_copyB undInsTable sizeInsTable (row_heap (w := w.drew) hb) (by rw [hC's]; exact hf1) ((row_heap_ne w.drew _ hvb).trans hv) (by simp only [Nat.min_def]; split <;> omega) (by omega) (by omega) (fun j v hj hv => h1v _ v (by omega) (by simpa using hv))
  rw [← hC', ← hC'']
  have mixed : Tryz.prog.follows .mixedOrders = true := by kernel_rfl
  have hw1 : IntKind.i64.wrap ((i : Int) + (m : Int)) = (i : Int) + (m : Int) := by rw [IntKind.wrap_i64]; omega
  have hw2 : IntKind.i64.wrap ((n : Int) + (m : Int)) = (n : Int) + (m : Int) := by rw [IntKind.wrap_i64]; omega
  have hb1 : (0 : Int) ≤ (i : Int) + (m : Int) := by omega
  have hb5 : (0 : Int) ≤ (n : Int) + (m : Int) := by omega
  have hin : i ≤ n := by omega
  have htn : ((i : Int) + (m : Int)).toNat = i + m := by omega
  have htn2 : ((n : Int) + (m : Int)).toNat = n + m := by omega
  have hb2 : ¬ (c = i + m) := by omega
  have hb3 : (i : Int) ≤ (n : Int) + (m : Int) := by omega
  have hb4 : ¬ (c = i) := by omega
  clear hexl hC's hC' hC'' h1c h1v hf1 hf2 hf3 hb hv hcs hvs hbig
  go_enter Tryz.func151, Tryz.ntmps151
  go_wp2_with (simp only [hov])
  go_region_law_o (refine step_copy_runI rfl _ _ 103 103 rfl _ _ (by simp [Act.eval, Act.put]) (by simp [Act.eval, Act.put]) (hcp1 _ _ _) ?_)
  go_wp2_with (at_builtin; refine wpList_copy_runI _ rfl _ _ 103 103 rfl _ _ rfl rfl (hcp2 _ rfl _ _) ?_)
  go_ret
  exact ⟨rfl, rfl⟩

set_option maxHeartbeats 4000000 in
theorem insGrowTable (b n c i vb m vc : Nat) (C1 C2 : Array Value) (fz1 fz2 : Nat × Nat) (w : World) (hi : i < n) (hm : 1 ≤ m) (hnc : n ≤ c) (hroom : c < n + m) (hbig : (n + m) * 88 ≤ 274877906944) (hcs : c * 4 ≤ C1.size) (hvs : m * 4 ≤ C2.size)
    (hb : w.heap[b]? = some (.cells C1 67 fz1)) (hv : w.heap[vb]? = some (.cells C2 67 fz2))
    (h1c : ∀ (j : Nat) (v : Value), j < n * 4 → C1[j]? = some v → v.oneCell = true) (h1v : ∀ (j : Nat) (v : Value), j < m * 4 → C2[j]? = some v → v.oneCell = true) (Q : Value → World → Prop)
    (hQ : ∀ (G : Nat) (R : Array Value) (w' : World), n + m ≤ G → R.size = G * 4 → (∀ j, j < i * 4 → R[j]? = C1[j]?) →
      w'.heap = (World.row (World.row (w.alloc (.cells R 67)) w.heap.size (.cells (splA R (i * 4) (C2.extract 0 (0 + m * 4)).toList) 67 (0, 0))) w.heap.size
        (.cells (splA (splA R (i * 4) (C2.extract 0 (0 + m * 4)).toList) ((i + m) * 4) (C1.extract (i * 4) (i * 4 + (n - i) * 4)).toList) 67 (0, 0))).heap → w'.os = w.os → w'.output = w.output →
      Q (.slice (some ⟨w.heap.size, 0, none⟩) (n + m) G) w') :
    Calls Tryz.prog 151 #[.slice (some ⟨b, 0, none⟩) n c, .int .i64 i, .slice (some ⟨vb, 0, none⟩) m vc] w fun x w' => ∃ v, x = .returned v ∧ Q v w' := by
  obtain ⟨i0, z, hi0, hz0, hzs, hzb, hzc⟩ := infoInsTable
  have hz1 : ¬ ((m : Int) = 0) := by omega
  have hz2 : ¬ ((i : Int) = (n : Int)) := by omega
  have hz3 : (c : Int) < (n : Int) + (m : Int) := by omega
  have hbw : b < w.heap.size := (Array.getElem?_eq_some_iff.1 hb).1
  have hvw : vb < w.heap.size := (Array.getElem?_eq_some_iff.1 hv).1
  have hkk : (n : Int) + (m : Int) - (i : Int) = ((n + m - i : Nat) : Int) := by omega
  have hik : i + (n + m - i) = n + m := by omega
  have hold : (Builtin.firstCells i0.size i (.slice (some ⟨b, 0, none⟩) i c)).run Tryz.prog w.drew = .ok (C1.extract 0 (0 + i * 4)).toList.toArray w.drew := by
    rw [hzs]
    simp only [Builtin.firstCells]
    exact run_loadCells_at (w := w.drew) hb (by omega)
  have hrz : ∀ ty, (Builtin.append_ #[103, 3] ty #[.slice (some ⟨b, 0, none⟩) i c, .int .i64 ((n : Int) + (m : Int) - (i : Int))]).run Tryz.prog w =
      .ok (.slice (some ⟨w.heap.size, 0, none⟩) (n + m) (grownCap w (n + m) c 67)) (w.drew.alloc (.cells ((C1.extract 0 (0 + i * 4)).toList.toArray ++ Builtin.zeroCells z.cells (n + m - i) ++ Builtin.zeroCells z.cells (grownCap w (n + m) c 67 - (n + m))) 67)) := fun ty => by
    have h := Lib.run_append_grow_zeros w 103 3 ty 67 i0 z .i64 .i64 Tryz.underlying103 Tryz.underlying3 hi0 hz0 (some ⟨b, 0, none⟩) i c (C1.extract 0 (0 + i * 4)).toList hold (n + m - i) (by omega) (by omega) (by omega) (by omega) (by rw [hzb]; omega) (by rw [hzb, hik]; exact growslice_fits hroom (by omega))
    rw [hik] at h
    rw [hkk]
    exact h
  have hGn : n + m ≤ grownCap w (n + m) c 67 := grownCap_ge w _ _ _
  have hG63 : grownCap w (n + m) c 67 ≤ 9223372036854775807 := by
    have := grownCap_le_maxLen w (n + m) c 67 (by unfold maxLen; omega)
    unfold maxLen at this
    omega
  obtain ⟨G, hG⟩ : ∃ G, G = grownCap w (n + m) c 67 := ⟨_, rfl⟩
  rw [← hG] at hrz hGn hG63
  obtain ⟨R, hR⟩ : ∃ R : Array Value, R = (C1.extract 0 (0 + i * 4)).toList.toArray ++ Builtin.zeroCells z.cells (n + m - i) ++ Builtin.zeroCells z.cells (G - (n + m)) := ⟨_, rfl⟩
  rw [← hR] at hrz
  have hRs : R.size = G * 4 := by
    rw [hR]
    simp only [Array.size_append, size_zc', Array.toArray_toList, Array.size_extract, hzc]
    omega
  have hRl : ∀ j, j < i * 4 → R[j]? = C1[j]? := fun j hj => by
    rw [hR, Array.append_assoc, Array.getElem?_append_left (by simp; omega)]
    simp only [Array.toArray_toList, Array.getElem?_extract]
    rw [if_pos (by omega), Nat.zero_add]
  obtain ⟨R2, hR2⟩ : ∃ R2, R2 = splA R (i * 4) (C2.extract 0 (0 + m * 4)).toList := ⟨_, rfl⟩
  have hxl : (C2.extract 0 (0 + m * 4)).toList.length = m * 4 := by simp; omega
  have hR2s : R2.size = R.size := by rw [hR2]; exact splA_size _ _ _ (by omega)
  obtain ⟨R3, hR3⟩ : ∃ R3, R3 = splA R2 ((i + m) * 4) (C1.extract (i * 4) (i * 4 + (n - i) * 4)).toList := ⟨_, rfl⟩
  have hp : (w.alloc (.cells R 67)).heap[w.heap.size]? = some (.cells R 67 (0, 0)) := heap_push_eq _ _
  have hcpA : ∀ (W : World), W.heap = (w.alloc (.cells R 67)).heap → ∀ ty dc, (Builtin.copy_ #[103, 103] ty #[.slice (some ⟨w.heap.size, i * 4, none⟩) (n + m - i) dc, .slice (some ⟨vb, 0, none⟩) m vc]).run Tryz.prog W = .ok (goInt (m : Int)) (World.row W w.heap.size (.cells R2 67 (0, 0))) := fun W hW ty dc => by
    rw [hR2]
    exact run_copyB undInsTable sizeInsTable (by rw [hW]; exact hp) (fzOk00 _) (by rw [hW]; exact (Lib.alloc_old w _ vb hvw).trans hv) (by simp only [Nat.min_def]; split <;> omega) (by omega) (by omega) (fun j v hj hv => h1v _ v (by omega) (by simpa using hv))
  have hcpB : ∀ (W : World), W.heap = (World.row (w.alloc (.cells R 67)) w.heap.size (.cells R2 67 (0, 0))).heap → ∀ ty dc sc, (Builtin.copy_ #[103, 103] ty #[.slice (some ⟨w.heap.size, (i + m) * 4, none⟩) (n + m - (i + m)) dc, .slice (some ⟨b, i * 4, none⟩) (n - i) sc]).run Tryz.prog W = .ok (goInt ((n - i : Nat) : Int)) (World.row W w.heap.size (.cells R3 67 (0, 0))) := fun W hW ty dc sc => by
    rw [hR3]
    exact run_copyB undInsTable sizeInsTable (by rw [hW]; exact row_heap hp) (fzOk00 _) (by rw [hW, row_heap_ne _ _ (by omega)]; exact (Lib.alloc_old w _ b hbw).trans hb) (by simp only [Nat.min_def]; split <;> omega) (by omega) (by omega) (fun j v hj hv => h1c _ v (by omega) hv)
  have HQ := Lib.hid (fun w' h => hQ G R w' hGn hRs hRl h)
  rw [← hR2, ← hR3] at HQ
  have mixed : Tryz.prog.follows .mixedOrders = true := by kernel_rfl
  have hGi : ¬ (G = i) := by omega
  have hGim : ¬ (G = i + m) := by omega
  have hci : ¬ (c = i) := by omega
  have hbN : b ≠ w.heap.size := by omega
  have hw1 : IntKind.i64.wrap ((i : Int) + (m : Int)) = (i : Int) + (m : Int) := by rw [IntKind.wrap_i64]; omega
  have hw2 : IntKind.i64.wrap ((n : Int) + (m : Int)) = (n : Int) + (m : Int) := by rw [IntKind.wrap_i64]; omega
  have hw3 : IntKind.i64.wrap ((n : Int) + (m : Int) - (i : Int)) = (n : Int) + (m : Int) - (i : Int) := by rw [IntKind.wrap_i64]; omega
  have hb1 : (0 : Int) ≤ (i : Int) + (m : Int) := by omega
  have hin : i ≤ n := by omega
  have htn : ((i : Int) + (m : Int)).toNat = i + m := by omega
  have hb3 : (i : Int) ≤ (n : Int) := by omega
  have hb6 : (i : Int) + (m : Int) ≤ (n : Int) + (m : Int) := by omega
  clear hkk hik hold hR hRl hRs hR2 hR3 hR2s hp hxl hQ hG h1c h1v hb hv hcs hvs hbig hG63 hz0 hi0 hzs hzb hzc
  go_enter Tryz.func151, Tryz.ntmps151
  go_wp2_with (at_builtin; refine Lib.wpList_append_run _ rfl _ _ _ _ rfl _ _ rfl rfl _ _ (hrz _) ?_)
  rw [hcpA (w.alloc (.cells R 67)).drew rfl]
  simp only [Result.andThen]
  rw [Oper.upon_value]
  go_wp2
  go_region_law_o (refine step_copy_runI rfl _ _ 103 103 rfl (.slice (some ⟨w.heap.size, (i + m) * 4, none⟩) (n + m - (i + m)) (G - (i + m))) (.slice (some ⟨b, i * 4, none⟩) (n - i) (c - i)) (by simp [Act.eval, Act.put]) (by simp [Act.eval, Act.put]) (hcpB (World.row (w.alloc (.cells R 67)).drew w.heap.size (.cells R2 67 (0, 0))).drew rfl 3 (G - (i + m)) (c - i)) ?_)
  go_wp2
  go_ret
  exact ⟨_, rfl, HQ.out _ rfl rfl rfl⟩

theorem ins_callsTable : InsCalls Tryz.prog 151 67 4 88 := by
  intro b n c i vb m vc C1 C2 fz1 fz2 w hi hm hnc hcs hvs hvb hb hf1 hv hf2 hf3 h1c h1v hbig
  have hbig : (n + m) * 88 ≤ 274877906944 := hbig
  have hx1 : (C1.extract (i * 4) (i * 4 + (n - i) * 4)).toList.length = (n - i) * 4 := by simp; omega
  have hx2 : (C2.extract 0 (0 + m * 4)).toList.length = m * 4 := by simp; omega
  have g1 : ∀ j, j < (n - i) * 4 → (C1.extract (i * 4) (i * 4 + (n - i) * 4)).toList[j]? = C1[i * 4 + j]? := fun j hj => by
    rw [Array.getElem?_toList, Array.getElem?_extract, if_pos (by omega)]
  have g2 : ∀ j, j < m * 4 → (C2.extract 0 (0 + m * 4)).toList[j]? = C2[j]? := fun j hj => by
    rw [Array.getElem?_toList, Array.getElem?_extract, if_pos (by omega), Nat.zero_add]
  by_cases hroom : n + m ≤ c
  · refine (insRoomTable b n c i vb m vc C1 C2 fz1 fz2 w hi hm hroom hbig hcs hvs hvb hb hf1 hv hf2 hf3 h1c h1v).mono ?_
    rintro x w' ⟨rfl, rfl⟩
    have s1 : (splA C1 ((i + m) * 4) (C1.extract (i * 4) (i * 4 + (n - i) * 4)).toList).size = C1.size := splA_size _ _ _ (by omega)
    have s2 : (splA (splA C1 ((i + m) * 4) (C1.extract (i * 4) (i * 4 + (n - i) * 4)).toList) (i * 4) (C2.extract 0 (0 + m * 4)).toList).size = C1.size := by rw [splA_size _ _ _ (by omega), s1]
    refine ⟨b, c, _, rfl, hroom, by rw [s2]; exact hcs, .inl ⟨rfl, s2, by rw [row_row]; rfl⟩, rfl, rfl, fun j hj => ?_, fun j hj => ?_, fun j hj => ?_⟩
    · rw [splA_get _ _ _ (by omega), if_pos hj, splA_get _ _ _ (by omega), if_pos (by omega)]
    · rw [splA_get _ _ _ (by omega), if_neg (by omega), if_pos (by omega), Nat.add_sub_cancel_left, g2 j hj]
    · rw [splA_get _ _ _ (by omega), if_neg (by omega), if_neg (by omega), splA_get _ _ _ (by omega), if_neg (by omega), if_pos (by omega), show i * 4 + m * 4 + j - (i + m) * 4 = j by omega, g1 j hj]
  · refine (insGrowTable b n c i vb m vc C1 C2 fz1 fz2 w hi hm hnc (by omega) hbig hcs hvs hb hv h1c h1v (fun v w' => ∃ (b' c' : Nat) (C' : Array Value), v = .slice (some ⟨b', 0, none⟩) (n + m) c' ∧ n + m ≤ c' ∧ c' * 4 ≤ C'.size ∧
        ((b' = b ∧ C'.size = C1.size ∧ w'.heap = (World.row w b (.cells C' 67 fz1)).heap) ∨ (b' = w.heap.size ∧ w'.heap = w.heap.push (.cells C' 67 (0, 0)))) ∧ w'.os = w.os ∧ w'.output = w.output ∧
        (∀ j, j < i * 4 → C'[j]? = C1[j]?) ∧ (∀ j, j < m * 4 → C'[i * 4 + j]? = C2[j]?) ∧ (∀ j, j < (n - i) * 4 → C'[i * 4 + m * 4 + j]? = C1[i * 4 + j]?)) ?_).mono ?_
    · intro G R w' hG hR hRl hh hos hout
      have s1 : (splA R (i * 4) (C2.extract 0 (0 + m * 4)).toList).size = R.size := splA_size _ _ _ (by omega)
      have s2 : (splA (splA R (i * 4) (C2.extract 0 (0 + m * 4)).toList) ((i + m) * 4) (C1.extract (i * 4) (i * 4 + (n - i) * 4)).toList).size = R.size := by rw [splA_size _ _ _ (by omega), s1]
      refine ⟨w.heap.size, G, _, rfl, hG, by rw [s2, hR]; exact Nat.le_refl _, .inr ⟨rfl, by rw [hh, row_row]; exact push_row w _ _⟩, hos, hout, fun j hj => ?_, fun j hj => ?_, fun j hj => ?_⟩
      · rw [splA_get _ _ _ (by omega), if_pos (by omega), splA_get _ _ _ (by omega), if_pos hj, hRl j hj]
      · rw [splA_get _ _ _ (by omega), if_pos (by omega), splA_get _ _ _ (by omega), if_neg (by omega), if_pos (by omega), Nat.add_sub_cancel_left, g2 j hj]
      · rw [splA_get _ _ _ (by omega), if_neg (by omega), if_pos (by omega), show i * 4 + m * 4 + j - (i + m) * 4 = j by omega, g1 j hj]
    · rintro x w' ⟨v, rfl, b', c', C', rfl, h⟩
      exact ⟨b', c', C', rfl, h⟩

theorem mkTable : Gl.mark 67 = false := by kernel_rfl
def insETable : Ent := fun a o => match a, o with
  | [.sl 0 sz 0 n none, .d (.int .i64 i), .sl 1 sz2 0 m _], .rar e cs :: .rar e2 cs2 :: r =>
    bif Nat.beq sz 4 && Nat.beq sz2 4 && Nat.beq e 67 && Nat.beq e2 67 && Nat.blt i.toNat n && Nat.ble 1 m && Nat.ble (n * 4) cs.length && Nat.ble (m * 4) cs2.length && Nat.ble (n + m) 1000000 then
      some (.sl (r.length + 2) 4 0 (n + m) none, .gone :: .rar 67 cs2 :: r ++ [.rar 67 (cs.take (i.toNat * 4) ++ cs2.take (m * 4) ++ (cs.drop (i.toNat * 4)).take ((n - i.toNat) * 4))], [decide (0 ≤ i)]) else none
  | _, _ => none
theorem ins_entTable : EntOk Tryz.prog 151 insETable := by
  intro a o r o' c hg hc
  unfold insETable at hg
  split at hg
  · rename_i sz n i sz2 m k e cs e2 cs2 rr
    rw [cond_eq_ite] at hg
    split at hg <;> rename_i hcond
    · simp only [Option.some.injEq, Prod.mk.injEq] at hg
      obtain ⟨rfl, rfl, rfl⟩ := hg
      simp only [Bool.and_eq_true] at hcond
      obtain ⟨⟨⟨⟨⟨⟨⟨⟨k1, k2⟩, k3⟩, k4⟩, k5⟩, k6⟩, k7⟩, k8⟩, k9⟩ := hcond
      have := nbE k1; subst this
      have := nbE k2; subst this
      have := nbE k3; subst this
      have := nbE k4; subst this
      have k5 : i.toNat < n := Nat.le_of_ble_eq_true k5
      have k6 := Nat.le_of_ble_eq_true k6
      have k7 := Nat.le_of_ble_eq_true k7
      have k8 := Nat.le_of_ble_eq_true k8
      have k9 := Nat.le_of_ble_eq_true k9
      have h0 : 0 ≤ i := by simpa using hc (decide (0 ≤ i)) (by simp)
      have := ins_c (k := k) (cs := cs) (cs2 := cs2) (r := rr) ins_callsTable mkTable k5 k6 k7 k8 (by show (n + m) * 88 ≤ 274877906944; omega)
      rw [Int.toNat_of_nonneg h0] at this
      exact this
    · cases hg
  · cases hg

theorem undInsIndex : (Env.of Tryz.prog).und 65 = some (.slice 75) := by kernel_rfl
theorem sizeInsIndex : (Env.of Tryz.prog).size 75 = some 3 := by kernel_rfl
theorem infoInsIndex : ∃ i z, Tryz.prog.info? 75 = some i ∧ i.zero = some z ∧ i.size = 3 ∧ i.bytes = 48 ∧ z.cells.size = 3 := by
  have h : (Tryz.prog.info? 75).bind (fun i => i.zero.map fun z => (Nat.beq i.size 3 && Nat.beq i.bytes 48 && Nat.beq z.cells.size 3)) = some true := by kernel_rfl
  cases hi : Tryz.prog.info? 75 with
  | none => rw [hi] at h; cases h
  | some i =>
    rw [hi] at h
    cases hz : i.zero with
    | none => simp [hz] at h
    | some z =>
      simp only [Option.bind_some, hz, Option.map_some, Option.some.injEq, Bool.and_eq_true] at h
      exact ⟨i, z, rfl, hz, nbE h.1.1, nbE h.1.2, nbE h.2⟩

set_option maxHeartbeats 4000000 in
theorem insRoomIndex (b n c i vb m vc : Nat) (C1 C2 : Array Value) (fz1 fz2 : Nat × Nat) (w : World) (hi : i < n) (hm : 1 ≤ m) (hroom : n + m ≤ c) (hbig : (n + m) * 48 ≤ 274877906944) (hcs : c * 3 ≤ C1.size) (hvs : m * 3 ≤ C2.size) (hvb : vb ≠ b)
    (hb : w.heap[b]? = some (.cells C1 75 fz1)) (hf1 : FzOk fz1 C1.size) (hv : w.heap[vb]? = some (.cells C2 75 fz2)) (hf2 : FzOk fz2 C2.size) (hf3 : fz2.2 ≤ C2.size)
    (h1c : ∀ (j : Nat) (v : Value), j < n * 3 → C1[j]? = some v → v.oneCell = true) (h1v : ∀ (j : Nat) (v : Value), j < m * 3 → C2[j]? = some v → v.oneCell = true) :
    Calls Tryz.prog 157 #[.slice (some ⟨b, 0, none⟩) n c, .int .i64 i, .slice (some ⟨vb, 0, none⟩) m vc] w fun x w' =>
      x = .returned (.slice (some ⟨b, 0, none⟩) (n + m) c) ∧
      w' = World.row (World.row w.drew b (.cells (splA C1 ((i + m) * 3) (C1.extract (i * 3) (i * 3 + (n - i) * 3)).toList) 75 fz1)) b
        (.cells (splA (splA C1 ((i + m) * 3) (C1.extract (i * 3) (i * 3 + (n - i) * 3)).toList) (i * 3) (C2.extract 0 (0 + m * 3)).toList) 75 fz1) := by
  have hz1 : ¬ ((m : Int) = 0) := by omega
  have hz2 : ¬ ((i : Int) = (n : Int)) := by omega
  have hov : ∀ lb cb, (callFunc 249 #[.slice (some ⟨vb, 0, none⟩) m vc, .slice (some ⟨b, (i + m) * 3, none⟩) lb cb]).run Tryz.prog w = .ok (.value (.bool false)) w := fun lb cb => by
    rw [run_callFunc_extern Tryz.func249 (by kernel_rfl) (by kernel_rfl) (by kernel_rfl) (e := Extern.SlicesOverlaps.overlaps #[65, 65] #[4]) (by kernel_rfl),
      Lib.run_overlaps_apart w 65 4 75 Tryz.underlying65 3 (run_sizeOf' sizeInsIndex) ⟨vb, 0, none⟩ ⟨b, (i + m) * 3, none⟩ m vc lb cb hvb 75 75 C2.size C1.size (shape_of_heap hv) (shape_of_heap hb) (by omega)
        (frozen_of_fz hv (hf2 0 (by omega))) (frozen_of_fz hv (by omega))]
    rfl
  obtain ⟨C', hC'⟩ : ∃ C', C' = splA C1 ((i + m) * 3) (C1.extract (i * 3) (i * 3 + (n - i) * 3)).toList := ⟨_, rfl⟩
  have hexl : (C1.extract (i * 3) (i * 3 + (n - i) * 3)).toList.length = (n - i) * 3 := by simp; omega
  have hC's : C'.size = C1.size := by rw [hC']; exact splA_size _ _ _ (by omega)
  have hcp1 : ∀ ty dc sc, (Builtin.copy_ #[65, 65] ty #[.slice (some ⟨b, (i + m) * 3, none⟩) (n + m - (i + m)) dc, .slice (some ⟨b, i * 3, none⟩) (n + m - i) sc]).run Tryz.prog w.drew = .ok (goInt ((n - i : Nat) : Int)) (World.row w.drew b (.cells C' 75 fz1)) := fun ty dc sc => by
    rw [hC']
    exact run_copyB undInsIndex sizeInsIndex (w := w.drew) hb hf1 hb (by simp only [Nat.min_def]; split <;> omega) (by omega) (by omega) (fun j v hj hv => h1c _ v (by omega) hv)
  obtain ⟨C'', hC''⟩ : ∃ C'', C'' = splA C' (i * 3) (C2.extract 0 (0 + m * 3)).toList := ⟨_, rfl⟩
  have hcp2 : ∀ (W : World), W = World.row w.drew b (.cells C' 75 fz1) → ∀ ty dc, (Builtin.copy_ #[65, 65] ty #[.slice (some ⟨b, i * 3, none⟩) (n + m - i) dc, .slice (some ⟨vb, 0, none⟩) m vc]).run Tryz.prog W = .ok (goInt (m : Int)) (World.row W b (.cells C'' 75 fz1)) := fun W hW ty dc => by
    rw [hC'']
    subst hW
    exact run_copyB undInsIndex sizeInsIndex (row_heap (w := w.drew) hb) (by rw [hC's]; exact hf1) ((row_heap_ne w.drew _ hvb).trans hv) (by simp only [Nat.min_def]; split <;> omega) (by omega) (by omega) (fun j v hj hv => h1v _ v (by omega) (by simpa using hv))
  rw [← hC', ← hC'']
  have mixed : Tryz.prog.follows .mixedOrders = true := by kernel_rfl
  have hw1 : IntKind.i64.wrap ((i : Int) + (m : Int)) = (i : Int) + (m : Int) := by rw [IntKind.wrap_i64]; omega
  have hw2 : IntKind.i64.wrap ((n : Int) + (m : Int)) = (n : Int) + (m : Int) := by rw [IntKind.wrap_i64]; omega
  have hb1 : (0 : Int) ≤ (i : Int) + (m : Int) := by omega
  have hb5 : (0 : Int) ≤ (n : Int) + (m : Int) := by omega
  have hin : i ≤ n := by omega
  have htn : ((i : Int) + (m : Int)).toNat = i + m := by omega
  have htn2 : ((n : Int) + (m : Int)).toNat = n + m := by omega
  have hb2 : ¬ (c = i + m) := by omega
  have hb3 : (i : Int) ≤ (n : Int) + (m : Int) := by omega
  have hb4 : ¬ (c = i) := by omega
  clear hexl hC's hC' hC'' h1c h1v hf1 hf2 hf3 hb hv hcs hvs hbig
  go_enter Tryz.func157, Tryz.ntmps157
  go_wp2_with (simp only [hov])
  go_region_law_o (refine step_copy_runI rfl _ _ 65 65 rfl _ _ (by simp [Act.eval, Act.put]) (by simp [Act.eval, Act.put]) (hcp1 _ _ _) ?_)
  go_wp2_with (at_builtin; refine wpList_copy_runI _ rfl _ _ 65 65 rfl _ _ rfl rfl (hcp2 _ rfl _ _) ?_)
  go_ret
  exact ⟨rfl, rfl⟩

set_option maxHeartbeats 4000000 in
theorem insGrowIndex (b n c i vb m vc : Nat) (C1 C2 : Array Value) (fz1 fz2 : Nat × Nat) (w : World) (hi : i < n) (hm : 1 ≤ m) (hnc : n ≤ c) (hroom : c < n + m) (hbig : (n + m) * 48 ≤ 274877906944) (hcs : c * 3 ≤ C1.size) (hvs : m * 3 ≤ C2.size)
    (hb : w.heap[b]? = some (.cells C1 75 fz1)) (hv : w.heap[vb]? = some (.cells C2 75 fz2))
    (h1c : ∀ (j : Nat) (v : Value), j < n * 3 → C1[j]? = some v → v.oneCell = true) (h1v : ∀ (j : Nat) (v : Value), j < m * 3 → C2[j]? = some v → v.oneCell = true) (Q : Value → World → Prop)
    (hQ : ∀ (G : Nat) (R : Array Value) (w' : World), n + m ≤ G → R.size = G * 3 → (∀ j, j < i * 3 → R[j]? = C1[j]?) →
      w'.heap = (World.row (World.row (w.alloc (.cells R 75)) w.heap.size (.cells (splA R (i * 3) (C2.extract 0 (0 + m * 3)).toList) 75 (0, 0))) w.heap.size
        (.cells (splA (splA R (i * 3) (C2.extract 0 (0 + m * 3)).toList) ((i + m) * 3) (C1.extract (i * 3) (i * 3 + (n - i) * 3)).toList) 75 (0, 0))).heap → w'.os = w.os → w'.output = w.output →
      Q (.slice (some ⟨w.heap.size, 0, none⟩) (n + m) G) w') :
    Calls Tryz.prog 157 #[.slice (some ⟨b, 0, none⟩) n c, .int .i64 i, .slice (some ⟨vb, 0, none⟩) m vc] w fun x w' => ∃ v, x = .returned v ∧ Q v w' := by
  obtain ⟨i0, z, hi0, hz0, hzs, hzb, hzc⟩ := infoInsIndex
  have hz1 : ¬ ((m : Int) = 0) := by omega
  have hz2 : ¬ ((i : Int) = (n : Int)) := by omega
  have hz3 : (c : Int) < (n : Int) + (m : Int) := by omega
  have hbw : b < w.heap.size := (Array.getElem?_eq_some_iff.1 hb).1
  have hvw : vb < w.heap.size := (Array.getElem?_eq_some_iff.1 hv).1
  have hkk : (n : Int) + (m : Int) - (i : Int) = ((n + m - i : Nat) : Int) := by omega
  have hik : i + (n + m - i) = n + m := by omega
  have hold : (Builtin.firstCells i0.size i (.slice (some ⟨b, 0, none⟩) i c)).run Tryz.prog w.drew = .ok (C1.extract 0 (0 + i * 3)).toList.toArray w.drew := by
    rw [hzs]
    simp only [Builtin.firstCells]
    exact run_loadCells_at (w := w.drew) hb (by omega)
  have hrz : ∀ ty, (Builtin.append_ #[65, 3] ty #[.slice (some ⟨b, 0, none⟩) i c, .int .i64 ((n : Int) + (m : Int) - (i : Int))]).run Tryz.prog w =
      .ok (.slice (some ⟨w.heap.size, 0, none⟩) (n + m) (grownCap w (n + m) c 75)) (w.drew.alloc (.cells ((C1.extract 0 (0 + i * 3)).toList.toArray ++ Builtin.zeroCells z.cells (n + m - i) ++ Builtin.zeroCells z.cells (grownCap w (n + m) c 75 - (n + m))) 75)) := fun ty => by
    have h := Lib.run_append_grow_zeros w 65 3 ty 75 i0 z .i64 .i64 Tryz.underlying65 Tryz.underlying3 hi0 hz0 (some ⟨b, 0, none⟩) i c (C1.extract 0 (0 + i * 3)).toList hold (n + m - i) (by omega) (by omega) (by omega) (by omega) (by rw [hzb]; omega) (by rw [hzb, hik]; exact growslice_fits hroom (by omega))
    rw [hik] at h
    rw [hkk]
    exact h
  have hGn : n + m ≤ grownCap w (n + m) c 75 := grownCap_ge w _ _ _
  have hG63 : grownCap w (n + m) c 75 ≤ 9223372036854775807 := by
    have := grownCap_le_maxLen w (n + m) c 75 (by unfold maxLen; omega)
    unfold maxLen at this
    omega
  obtain ⟨G, hG⟩ : ∃ G, G = grownCap w (n + m) c 75 := ⟨_, rfl⟩
  rw [← hG] at hrz hGn hG63
  obtain ⟨R, hR⟩ : ∃ R : Array Value, R = (C1.extract 0 (0 + i * 3)).toList.toArray ++ Builtin.zeroCells z.cells (n + m - i) ++ Builtin.zeroCells z.cells (G - (n + m)) := ⟨_, rfl⟩
  rw [← hR] at hrz
  have hRs : R.size = G * 3 := by
    rw [hR]
    simp only [Array.size_append, size_zc', Array.toArray_toList, Array.size_extract, hzc]
    omega
  have hRl : ∀ j, j < i * 3 → R[j]? = C1[j]? := fun j hj => by
    rw [hR, Array.append_assoc, Array.getElem?_append_left (by simp; omega)]
    simp only [Array.toArray_toList, Array.getElem?_extract]
    rw [if_pos (by omega), Nat.zero_add]
  obtain ⟨R2, hR2⟩ : ∃ R2, R2 = splA R (i * 3) (C2.extract 0 (0 + m * 3)).toList := ⟨_, rfl⟩
  have hxl : (C2.extract 0 (0 + m * 3)).toList.length = m * 3 := by simp; omega
  have hR2s : R2.size = R.size := by rw [hR2]; exact splA_size _ _ _ (by omega)
  obtain ⟨R3, hR3⟩ : ∃ R3, R3 = splA R2 ((i + m) * 3) (C1.extract (i * 3) (i * 3 + (n - i) * 3)).toList := ⟨_, rfl⟩
  have hp : (w.alloc (.cells R 75)).heap[w.heap.size]? = some (.cells R 75 (0, 0)) := heap_push_eq _ _
  have hcpA : ∀ (W : World), W.heap = (w.alloc (.cells R 75)).heap → ∀ ty dc, (Builtin.copy_ #[65, 65] ty #[.slice (some ⟨w.heap.size, i * 3, none⟩) (n + m - i) dc, .slice (some ⟨vb, 0, none⟩) m vc]).run Tryz.prog W = .ok (goInt (m : Int)) (World.row W w.heap.size (.cells R2 75 (0, 0))) := fun W hW ty dc => by
    rw [hR2]
    exact run_copyB undInsIndex sizeInsIndex (by rw [hW]; exact hp) (fzOk00 _) (by rw [hW]; exact (Lib.alloc_old w _ vb hvw).trans hv) (by simp only [Nat.min_def]; split <;> omega) (by omega) (by omega) (fun j v hj hv => h1v _ v (by omega) (by simpa using hv))
  have hcpB : ∀ (W : World), W.heap = (World.row (w.alloc (.cells R 75)) w.heap.size (.cells R2 75 (0, 0))).heap → ∀ ty dc sc, (Builtin.copy_ #[65, 65] ty #[.slice (some ⟨w.heap.size, (i + m) * 3, none⟩) (n + m - (i + m)) dc, .slice (some ⟨b, i * 3, none⟩) (n - i) sc]).run Tryz.prog W = .ok (goInt ((n - i : Nat) : Int)) (World.row W w.heap.size (.cells R3 75 (0, 0))) := fun W hW ty dc sc => by
    rw [hR3]
    exact run_copyB undInsIndex sizeInsIndex (by rw [hW]; exact row_heap hp) (fzOk00 _) (by rw [hW, row_heap_ne _ _ (by omega)]; exact (Lib.alloc_old w _ b hbw).trans hb) (by simp only [Nat.min_def]; split <;> omega) (by omega) (by omega) (fun j v hj hv => h1c _ v (by omega) hv)
  have HQ := Lib.hid (fun w' h => hQ G R w' hGn hRs hRl h)
  rw [← hR2, ← hR3] at HQ
  have mixed : Tryz.prog.follows .mixedOrders = true := by kernel_rfl
  have hGi : ¬ (G = i) := by omega
  have hGim : ¬ (G = i + m) := by omega
  have hci : ¬ (c = i) := by omega
  have hbN : b ≠ w.heap.size := by omega
  have hw1 : IntKind.i64.wrap ((i : Int) + (m : Int)) = (i : Int) + (m : Int) := by rw [IntKind.wrap_i64]; omega
  have hw2 : IntKind.i64.wrap ((n : Int) + (m : Int)) = (n : Int) + (m : Int) := by rw [IntKind.wrap_i64]; omega
  have hw3 : IntKind.i64.wrap ((n : Int) + (m : Int) - (i : Int)) = (n : Int) + (m : Int) - (i : Int) := by rw [IntKind.wrap_i64]; omega
  have hb1 : (0 : Int) ≤ (i : Int) + (m : Int) := by omega
  have hin : i ≤ n := by omega
  have htn : ((i : Int) + (m : Int)).toNat = i + m := by omega
  have hb3 : (i : Int) ≤ (n : Int) := by omega
  have hb6 : (i : Int) + (m : Int) ≤ (n : Int) + (m : Int) := by omega
  clear hkk hik hold hR hRl hRs hR2 hR3 hR2s hp hxl hQ hG h1c h1v hb hv hcs hvs hbig hG63 hz0 hi0 hzs hzb hzc
  go_enter Tryz.func157, Tryz.ntmps157
  go_wp2_with (at_builtin; refine Lib.wpList_append_run _ rfl _ _ _ _ rfl _ _ rfl rfl _ _ (hrz _) ?_)
  rw [hcpA (w.alloc (.cells R 75)).drew rfl]
  simp only [Result.andThen]
  rw [Oper.upon_value]
  go_wp2
  go_region_law_o (refine step_copy_runI rfl _ _ 65 65 rfl (.slice (some ⟨w.heap.size, (i + m) * 3, none⟩) (n + m - (i + m)) (G - (i + m))) (.slice (some ⟨b, i * 3, none⟩) (n - i) (c - i)) (by simp [Act.eval, Act.put]) (by simp [Act.eval, Act.put]) (hcpB (World.row (w.alloc (.cells R 75)).drew w.heap.size (.cells R2 75 (0, 0))).drew rfl 3 (G - (i + m)) (c - i)) ?_)
  go_wp2
  go_ret
  exact ⟨_, rfl, HQ.out _ rfl rfl rfl⟩

theorem ins_callsIndex : InsCalls Tryz.prog 157 75 3 48 := by
  intro b n c i vb m vc C1 C2 fz1 fz2 w hi hm hnc hcs hvs hvb hb hf1 hv hf2 hf3 h1c h1v hbig
  have hbig : (n + m) * 48 ≤ 274877906944 := hbig
  have hx1 : (C1.extract (i * 3) (i * 3 + (n - i) * 3)).toList.length = (n - i) * 3 := by simp; omega
  have hx2 : (C2.extract 0 (0 + m * 3)).toList.length = m * 3 := by simp; omega
  have g1 : ∀ j, j < (n - i) * 3 → (C1.extract (i * 3) (i * 3 + (n - i) * 3)).toList[j]? = C1[i * 3 + j]? := fun j hj => by
    rw [Array.getElem?_toList, Array.getElem?_extract, if_pos (by omega)]
  have g2 : ∀ j, j < m * 3 → (C2.extract 0 (0 + m * 3)).toList[j]? = C2[j]? := fun j hj => by
    rw [Array.getElem?_toList, Array.getElem?_extract, if_pos (by omega), Nat.zero_add]
  by_cases hroom : n + m ≤ c
  · refine (insRoomIndex b n c i vb m vc C1 C2 fz1 fz2 w hi hm hroom hbig hcs hvs hvb hb hf1 hv hf2 hf3 h1c h1v).mono ?_
    rintro x w' ⟨rfl, rfl⟩
    have s1 : (splA C1 ((i + m) * 3) (C1.extract (i * 3) (i * 3 + (n - i) * 3)).toList).size = C1.size := splA_size _ _ _ (by omega)
    have s2 : (splA (splA C1 ((i + m) * 3) (C1.extract (i * 3) (i * 3 + (n - i) * 3)).toList) (i * 3) (C2.extract 0 (0 + m * 3)).toList).size = C1.size := by rw [splA_size _ _ _ (by omega), s1]
    refine ⟨b, c, _, rfl, hroom, by rw [s2]; exact hcs, .inl ⟨rfl, s2, by rw [row_row]; rfl⟩, rfl, rfl, fun j hj => ?_, fun j hj => ?_, fun j hj => ?_⟩
    · rw [splA_get _ _ _ (by omega), if_pos hj, splA_get _ _ _ (by omega), if_pos (by omega)]
    · rw [splA_get _ _ _ (by omega), if_neg (by omega), if_pos (by omega), Nat.add_sub_cancel_left, g2 j hj]
    · rw [splA_get _ _ _ (by omega), if_neg (by omega), if_neg (by omega), splA_get _ _ _ (by omega), if_neg (by omega), if_pos (by omega), show i * 3 + m * 3 + j - (i + m) * 3 = j by omega, g1 j hj]
  · refine (insGrowIndex b n c i vb m vc C1 C2 fz1 fz2 w hi hm hnc (by omega) hbig hcs hvs hb hv h1c h1v (fun v w' => ∃ (b' c' : Nat) (C' : Array Value), v = .slice (some ⟨b', 0, none⟩) (n + m) c' ∧ n + m ≤ c' ∧ c' * 3 ≤ C'.size ∧
        ((b' = b ∧ C'.size = C1.size ∧ w'.heap = (World.row w b (.cells C' 75 fz1)).heap) ∨ (b' = w.heap.size ∧ w'.heap = w.heap.push (.cells C' 75 (0, 0)))) ∧ w'.os = w.os ∧ w'.output = w.output ∧
        (∀ j, j < i * 3 → C'[j]? = C1[j]?) ∧ (∀ j, j < m * 3 → C'[i * 3 + j]? = C2[j]?) ∧ (∀ j, j < (n - i) * 3 → C'[i * 3 + m * 3 + j]? = C1[i * 3 + j]?)) ?_).mono ?_
    · intro G R w' hG hR hRl hh hos hout
      have s1 : (splA R (i * 3) (C2.extract 0 (0 + m * 3)).toList).size = R.size := splA_size _ _ _ (by omega)
      have s2 : (splA (splA R (i * 3) (C2.extract 0 (0 + m * 3)).toList) ((i + m) * 3) (C1.extract (i * 3) (i * 3 + (n - i) * 3)).toList).size = R.size := by rw [splA_size _ _ _ (by omega), s1]
      refine ⟨w.heap.size, G, _, rfl, hG, by rw [s2, hR]; exact Nat.le_refl _, .inr ⟨rfl, by rw [hh, row_row]; exact push_row w _ _⟩, hos, hout, fun j hj => ?_, fun j hj => ?_, fun j hj => ?_⟩
      · rw [splA_get _ _ _ (by omega), if_pos (by omega), splA_get _ _ _ (by omega), if_pos hj, hRl j hj]
      · rw [splA_get _ _ _ (by omega), if_pos (by omega), splA_get _ _ _ (by omega), if_neg (by omega), if_pos (by omega), Nat.add_sub_cancel_left, g2 j hj]
      · rw [splA_get _ _ _ (by omega), if_neg (by omega), if_pos (by omega), show i * 3 + m * 3 + j - (i + m) * 3 = j by omega, g1 j hj]
    · rintro x w' ⟨v, rfl, b', c', C', rfl, h⟩
      exact ⟨b', c', C', rfl, h⟩

theorem mkIndex : Gl.mark 75 = false := by kernel_rfl
def insEIndex : Ent := fun a o => match a, o with
  | [.sl 0 sz 0 n none, .d (.int .i64 i), .sl 1 sz2 0 m _], .rar e cs :: .rar e2 cs2 :: r =>
    bif Nat.beq sz 3 && Nat.beq sz2 3 && Nat.beq e 75 && Nat.beq e2 75 && Nat.blt i.toNat n && Nat.ble 1 m && Nat.ble (n * 3) cs.length && Nat.ble (m * 3) cs2.length && Nat.ble (n + m) 1000000 then
      some (.sl (r.length + 2) 3 0 (n + m) none, .gone :: .rar 75 cs2 :: r ++ [.rar 75 (cs.take (i.toNat * 3) ++ cs2.take (m * 3) ++ (cs.drop (i.toNat * 3)).take ((n - i.toNat) * 3))], [decide (0 ≤ i)]) else none
  | _, _ => none
theorem ins_entIndex : EntOk Tryz.prog 157 insEIndex := by
  intro a o r o' c hg hc
  unfold insEIndex at hg
  split at hg
  · rename_i sz n i sz2 m k e cs e2 cs2 rr
    rw [cond_eq_ite] at hg
    split at hg <;> rename_i hcond
    · simp only [Option.some.injEq, Prod.mk.injEq] at hg
      obtain ⟨rfl, rfl, rfl⟩ := hg
      simp only [Bool.and_eq_true] at hcond
      obtain ⟨⟨⟨⟨⟨⟨⟨⟨k1, k2⟩, k3⟩, k4⟩, k5⟩, k6⟩, k7⟩, k8⟩, k9⟩ := hcond
      have := nbE k1; subst this
      have := nbE k2; subst this
      have := nbE k3; subst this
      have := nbE k4; subst this
      have k5 : i.toNat < n := Nat.le_of_ble_eq_true k5
      have k6 := Nat.le_of_ble_eq_true k6
      have k7 := Nat.le_of_ble_eq_true k7
      have k8 := Nat.le_of_ble_eq_true k8
      have k9 := Nat.le_of_ble_eq_true k9
      have h0 : 0 ≤ i := by simpa using hc (decide (0 ≤ i)) (by simp)
      have := ins_c (k := k) (cs := cs) (cs2 := cs2) (r := rr) ins_callsIndex mkIndex k5 k6 k7 k8 (by show (n + m) * 48 ≤ 274877906944; omega)
      rw [Int.toNat_of_nonneg h0] at this
      exact this
    · cases hg
  · cases hg
end Go.Proofs.YtiiookmnofhlmaaGreatDoor
