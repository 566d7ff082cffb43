/-
  (*strings.Builder).grow for the closed machine: at a Builder without a buffer.
-/
import Derived.Test.YtadndmmhpkmjeaaGreatDoorNa
import Derived.Lib.MakeNoZero

namespace Go.Proofs.YtadndmmhpkmjeaaGreatDoor
open Go.RowKit Am
set_option maxRecDepth 1000000

theorem heap_after (w : World) {b : Nat} {T : TypeId} {x v : Value} {o : Obj} (hb : w.heap[b]? = some (.cells #[x, .slice none 0 0] T (0, 0))) :
    ((w.setCell ⟨b, 1, none⟩ v).alloc o).heap = (World.row (w.alloc o) b (.cells #[x, v] T (0, 0))).heap := by
  have hlt := (Array.getElem?_eq_some_iff.1 hb).1
  rw [setCell_row hb]
  simp only [World.row, World.alloc]
  apply Array.ext'
  simp only [Array.toList_push, Array.toList_setIfInBounds]
  rw [List.set_append_left _ _ (by simpa using hlt)]
  rfl

/-- What is said of a state is said of its memory. -/
theorem frel_heap {κ : Kap} {φ : Phi} {w w' : World} {s : SSt} {a : Act} (F : FRel κ φ w s a) (h : w'.heap = w.heap) : FRel κ φ w' s a :=
  ⟨fun t => by rw [h]; exact F.regs t, fun i => by rw [h]; exact F.objs i, ⟨fun b hb => by rw [h]; exact F.bnd.lt b hb, fun p hp => by rw [h]; exact F.bnd.gl p hp⟩, F.n, by rw [h]; exact F.df⟩

set_option maxHeartbeats 2000000 in
theorem growWalk {T : Nat} (b n : Nat) (w : World) (hbk : w.heap[b]? = some (.cells #[.pointer (some ⟨b, 0, none⟩), .slice none 0 0] T (0, 0))) (hn : n ≤ 281474976710656) (Q : World → Prop)
    (hQ : ∀ (cs : Array Value) (w' : World), n ≤ cs.size → w'.heap = ((w.setCell ⟨b, 1, none⟩ (.slice (some ⟨w.heap.size, 0, none⟩) 0 cs.size)).alloc (.cells cs 5)).heap → w'.os = w.os → w'.output = w.output → Q w') :
    Calls Tryz.prog 281 #[.pointer (some ⟨b, 0, none⟩), .int .i64 n] w fun e w' => e = .returned (.tuple #[]) ∧ Q w' := by
  obtain ⟨cs, hrun, hle, hmax⟩ := Lib.run_makeNoZero (P := Tryz.prog) w.drew #[3] 198 5 Tryz.underlying198 n hn
  have hw : IntKind.i64.wrap (IntKind.i64.wrap 0 + (n : Int)) = n := by
    rw [IntKind.wrap_i64, IntKind.wrap_i64]
    omega
  have hcall : (callFunc 371 #[.int .i64 (IntKind.i64.wrap (IntKind.i64.wrap 0 + (n : Int)))]).run Tryz.prog w.drew = .ok (.value (.slice (some ⟨w.drew.heap.size, 0, none⟩) n cs.size)) (w.drew.drew.drew.alloc (.cells cs 5)) := by
    rw [hw, run_callFunc_extern Tryz.func371 (by kernel_rfl) (by kernel_rfl) (by kernel_rfl) (e := Extern.BytealgMakeNoZero.makeNoZero #[3] #[198]) (by kernel_rfl), hrun]
    rfl
  have c1 : w.drew.cell? ⟨b, 1, none⟩ = some (.slice none 0 0) := by
    have : w.drew.heap[b]? = _ := hbk
    rw [Lib.cell_of_heap this]; rfl
  have hlt : b < w.heap.size := (Array.getElem?_eq_some_iff.1 hbk).1
  have c2 : (w.alloc (.cells cs 5)).cell? ⟨b, 1, none⟩ = some (.slice none 0 0) := by
    have : (w.alloc (.cells cs 5)).heap[b]? = _ := (Lib.alloc_old w _ b hlt).trans hbk
    rw [Lib.cell_of_heap this]; rfl
  have f2 : (w.alloc (.cells cs 5)).frozen? ⟨b, 1, none⟩ = false := Lib.frozen_of_heap ((Lib.alloc_old w _ b hlt).trans hbk) 1
  have hcopy : ∀ W : World, (Builtin.copy_ #[198, 198] 3 #[.slice (some ⟨w.heap.size, 0, none⟩) 0 cs.size, .slice none 0 0]).run Tryz.prog W = .ok (goInt 0) W :=
    fun W => run_copy_none W 198 198 3 5 _ _ 0 cs.size 0 0 Tryz.underlying198 (by kernel_rfl) rfl
  have HQ := Lib.hid (fun w' h1 h2 h3 => hQ cs w' hle h1 h2 h3)
  clear hw hQ
  go_enter Tryz.func281, Tryz.ntmps281
  go_wp2
  go_region
  all_goals (go_wp2; go_end0; exact ⟨rfl, HQ.out _ rfl rfl rfl⟩)

theorem arg2 {κ : Kap} {φ : Phi} {O : Tab} {h : Heap} {vs : Array Value} {x y : RV} (h3 : vs.size = [x, y].length) (h4 : ∀ (i : Nat) (z : RV) (v : Value), [x, y][i]? = some z → vs[i]? = some v → RVR κ φ O h z v) :
    ∃ v u, vs = #[v, u] ∧ RVR κ φ O h x v ∧ RVR κ φ O h y u := by
  have hs : vs.size = 2 := by simpa using h3
  refine ⟨vs[0], vs[1], ?_, h4 0 x _ rfl (by simp [hs]), h4 1 y _ rfl (by simp [hs])⟩
  apply Array.ext
  · simpa using hs
  · intro i hi hi2
    simp at hi2
    match i, hi2 with
    | 0, _ => rfl
    | 1, _ => rfl

theorem grow_c {T : Nat} (n : Nat) (hn : n ≤ 281474976710656) : C Tryz.prog 281 [.ptr 0 0, .d (.int .i64 n)] [.box T [.ptr 0 0, .d (.lst 0 [] true)]]
    (fun v o => v = .d (.tup []) ∧ o = [.box T [.ptr 0 0, .sl 1 1 0 0 none], .rar 5 []]) := by
  intro κ φ w vs h1 h2 h3 h4
  obtain ⟨v0, v1, rfl, r0, r1⟩ := arg2 h3 h4
  cases r0 with
  | ptr hφ =>
  cases r1 with
  | d hd =>
  cases hd
  rename_i b
  have ho := h1 0
  have et : tabOf [PObj.box T [.ptr 0 0, .d (.lst 0 [] true)]] 0 = some (.box T [.ptr 0 0, .d (.lst 0 [] true)]) := rfl
  rw [et] at ho
  obtain ⟨b', c, g1, g2, g3, g4, g5, g6⟩ := ho
  rw [g1] at hφ; injection hφ with hφ; subst hφ
  obtain ⟨c0, c1, rfl⟩ := two_cells (by simpa using g4)
  have q0 := g6 0 (.ptr 0 0) c0 rfl rfl
  have q1 := g6 1 (.d (.lst 0 [] true)) c1 rfl rfl
  have hc1 : c1 = .slice none 0 0 := by
    cases q1 with
    | d hr =>
    cases hr with
    | lst0 hf => have := hf rfl; rw [this.1, this.2 rfl]
    | lst _ _ hf _ _ _ _ => have := (hf rfl).2; omega
  subst hc1
  have hc0 : c0 = .pointer (some ⟨b', 0, none⟩) := by
    cases q0 with
    | ptr hp => rw [g1] at hp; injection hp with hp; subst hp; rfl
  subst hc0
  have F := frel_of h1 h2
  refine (growWalk b' n w g3 hn (fun w' => ∃ κ' φ', (∀ i, OR κ' φ' (tabOf [.box T [.ptr 0 0, .sl 1 1 0 0 none], .rar 5 []]) w'.heap i (tabOf [PObj.box T [.ptr 0 0, .sl 1 1 0 0 none], .rar 5 []] i)) ∧
    Bnd κ' w' ∧ Fr κ w κ' w' ∧ Kp φ (tabOf [PObj.box T [.ptr 0 0, .d (.lst 0 [] true)]]) φ' (tabOf [PObj.box T [.ptr 0 0, .sl 1 1 0 0 none], .rar 5 []])) (fun cs w' hle hh hos hout => ?_)).mono (fun e w' ⟨he, κ', φ', k1, k2, k3, k4⟩ =>
      ⟨_, _, _, κ', φ', he, ⟨rfl, rfl⟩, .d (.tup rfl (by simp)), k1, k2, by simp, k3, k4⟩)
  obtain ⟨p1, p2, p3⟩ := F.alloc (i := 1) (p := .rar 5 []) (o := .cells cs 5) (w' := w.alloc (.cells cs 5)) rfl (by simp [tabOf])
    (fun M => ⟨_, cs, (0, 0), setP_same _ _ _, setK_same _ _ _, heap_push_eq _ _, fzR00 _ _, by simp, fun j x v hx hv => by simp at hx⟩)
  have hne : (0 : Nat) ≠ 1 := by decide
  have hlt : b' < w.heap.size := (Array.getElem?_eq_some_iff.1 g3).1
  have g3' : (w.alloc (.cells cs 5)).heap[b']? = some (.cells #[.pointer (some ⟨b', 0, none⟩), .slice none 0 0] T (0, 0)) := (Lib.alloc_old w _ b' hlt).trans g3
  have hκ : setK κ w.heap.size (.own 1) b' = .own 0 := by rw [setK_ne _ _ (by omega)]; exact g2
  have hφ' : setP φ 1 (.at w.heap.size) 0 = .at b' := by rw [setP_ne _ _ hne]; exact g1
  obtain ⟨t1, t2, t3⟩ := p1.write (i := 0) (p := .box T [.ptr 0 0, .sl 1 1 0 0 none]) (o := .cells #[.pointer (some ⟨b', 0, none⟩), .slice (some ⟨w.heap.size, 0, none⟩) 0 cs.size] T (0, 0)) hκ hφ'
    (fun c ty fz hh => by rw [g3'] at hh; injection hh with hh; injection hh with a1 a2 a3; subst a1; subst a2; exact ⟨_, _, rfl, rfl⟩) (fun n hn => by simp [PObj.len?] at hn)
    (fun M => ⟨b', _, hφ', hκ, row_heap g3', rfl, fun v hv => by
      simp at hv
      rcases hv with rfl | rfl <;> rfl, fun j x v hx hv => by
      match j, hx, hv with
      | 0, hx, hv => simp at hx hv; subst hx; subst hv; exact .ptr hφ'
      | 1, hx, hv =>
        simp at hx hv; subst hx; subst hv
        refine .sl (setP_same _ _ _) (c := cs) (ty := 5) (fz := (0, 0)) ?_ (.inl rfl) (by omega) (Nat.zero_le _) (fun k e => by cases e) (fun _ m hm => ?_)
        · rw [row_heap_ne _ _ (by omega)]; exact heap_push_eq _ _
        · simp [setT, PObj.len?] at hm; omega
      | j + 2, hx, hv => simp at hx⟩)
  have et2 : setT (setT (tabOf [PObj.box T [.ptr 0 0, .d (.lst 0 [] true)]]) 1 (some (.rar 5 []))) 0 (some (.box T [.ptr 0 0, .sl 1 1 0 0 none])) = tabOf [.box T [.ptr 0 0, .sl 1 1 0 0 none], .rar 5 []] := by
    funext i
    match i with
    | 0 => simp [setT, tabOf]
    | 1 => simp [setT, tabOf]
    | i + 2 => simp [setT, tabOf]
  simp only [et2] at t1 t2
  have hheap : w'.heap = (World.row (w.alloc (.cells cs 5)) b' (.cells #[.pointer (some ⟨b', 0, none⟩), .slice (some ⟨w.heap.size, 0, none⟩) 0 cs.size] T (0, 0))).heap := hh.trans (heap_after w g3)
  have t1' := frel_heap t1 hheap
  have hfr := p3.trans t3
  have hfr' : Fr κ w (setK κ w.heap.size (.own 1)) w' := ⟨by rw [hheap]; exact hfr.size, fun b hb => by rw [hheap]; exact hfr.imm b hb, fun b hb ho => by rw [hheap]; exact hfr.oth b hb ho, fun b c ty fz hc => by rw [hheap]; exact hfr.shp b c ty fz hc, hos, hout⟩
  exact ⟨_, _, t1'.objs, t1'.bnd, hfr', ⟨fun i hi => by rw [t2.kp.phi i (by rw [p2.kp.phi i hi]; exact hi), p2.kp.phi i hi], fun i m hi hm => p2.kp.len i m hi (by
    have := t2.kp.len i m (by rw [p2.kp.phi i hi]; exact hi) hm
    exact this)⟩⟩

def growE : Ent := fun a o => match a, o with
  | [.ptr 0 0, .d (.int .i64 n)], [.box T [.ptr 0 0, .d (.lst 0 [] true)]] => some (.d (.tup []), [.box T [.ptr 0 0, .sl 1 1 0 0 none], .rar 5 []], [decide (0 ≤ n), decide (n ≤ 281474976710656)])
  | _, _ => none
theorem grow_ent : EntOk Tryz.prog 281 growE := by
  intro a o r o' c hg hc
  unfold growE at hg
  split at hg
  · rename_i n T
    simp only [Option.some.injEq, Prod.mk.injEq] at hg
    obtain ⟨rfl, rfl, rfl⟩ := hg
    have h0 : 0 ≤ n := by simpa using hc (decide (0 ≤ n)) (by simp)
    have h1 : n ≤ 281474976710656 := by simpa using hc (decide (n ≤ 281474976710656)) (by simp)
    have := grow_c (T := T) n.toNat (by omega)
    rw [Int.toNat_of_nonneg h0] at this
    exact this
  · cases hg
end Go.Proofs.YtadndmmhpkmjeaaGreatDoor
