/-
  strings.Builder for the abstract machine: copyCheck and String by contracts; the other methods are run.
-/
import Derived.Test.YtljfolepmkcjlaaAmC
import Derived.Test.YtljfolepmkcjlaaChecked
import Derived.Lib.Builder
import Derived.Lib.UnsafeStr
import Derived.Lib.Hide
import Derived.RegionTactic
import Derived.WalkKit
import Derived.Laws.Externs
namespace Go.Proofs.Ytljfolepmkcjlaa
open Go.RowKit Am
set_option maxRecDepth 100000

theorem bT_size : (Try.prog.info? 72).map (fun i => decide (i.size ≠ 0)) = some true := by kernel_rfl
theorem bT_lies : liesAt Try.prog Try.prog.depth 72 (2 / Try.prog.cellsOf 72) 0 72 1 = true := by kernel_rfl
theorem cellsU8 : Try.prog.cellsOf 5 = 1 := by kernel_rfl

set_option maxHeartbeats 1000000 in
theorem ccUsed (b : Nat) (w : World) (h0 : w.cell? ⟨b, 0, none⟩ = some (.pointer (some ⟨b, 0, none⟩))) :
    Calls Try.prog 75 #[.pointer (some ⟨b, 0, none⟩)] w fun e w' => e = .returned (.tuple #[]) ∧ w' = w := by
  obtain ⟨j, hj, _⟩ := Option.map_eq_some_iff.1 bT_size
  go_enter Try.func75, Try.ntmps75
  go_wp2
  rw [Lib.run_neq_ptr_same w _ Try.underlying69 hj]
  go_wp2
  go_end0
  exact ⟨rfl, rfl⟩

set_option maxHeartbeats 1000000 in
theorem ccFresh (b : Nat) (w : World) (h0 : w.cell? ⟨b, 0, none⟩ = some (.pointer none)) (hsh : w.shape? b = some (72, 2)) (hfz : w.frozen? ⟨b, 0, none⟩ = false) :
    Calls Try.prog 75 #[.pointer (some ⟨b, 0, none⟩)] w fun e w' => e = .returned (.tuple #[]) ∧ w' = w.setCell ⟨b, 0, none⟩ (.pointer (some ⟨b, 0, none⟩)) := by
  obtain ⟨j, hj, hjs⟩ := Option.map_eq_some_iff.1 bT_size
  go_enter Try.func75, Try.ntmps75
  go_wp2
  rw [Lib.run_to_unsafe w ⟨b, 0, none⟩ Try.underlying69 Try.underlying103 hj (by simpa using hjs) hsh (Nat.zero_lt_succ 1)]
  simp only [Result.andThen]
  rw [Oper.upon_value]
  go_wp2
  rw [run_callFunc_extern Try.func89 (by kernel_rfl) (by kernel_rfl) (by kernel_rfl) (e := Extern.AbiNoEscape.same) (by kernel_rfl)]
  rw [Lib.run_noEscape]
  simp only [Result.andThen]
  rw [Oper.upon_value]
  go_wp2
  rw [Lib.run_from_unsafe w ⟨b, 0, none⟩ Try.underlying103 Try.underlying69 hj hsh bT_lies]
  simp only [Result.andThen]
  rw [Oper.upon_value]
  go_wp2
  go_end0
  exact ⟨rfl, rfl⟩

set_option maxHeartbeats 2000000 in
theorem strWalk (b g cap n0 : Nat) (l : List UInt8) (p : Value) (w : World) (Q : World → Prop) (fz : Nat × Nat) (cur : Array Value) (hne : l ≠ []) (hcap : l.length ≤ cap) (h63 : l.length ≤ 9223372036854775807)
    (hb : w.heap[b]? = some (.cells #[p, .slice (some ⟨g, 0, none⟩) l.length cap] 72 (0, 0))) (hg : w.heap[g]? = some (.cells cur 5 fz)) (hsz : cur.size = n0) (hn0 : l.length ≤ n0)
    (hcell : ∀ (j : Nat) (y : UInt8), l[j]? = some y → w.cell? ((⟨g, 0, none⟩ : Addr).add j) = some (.int .u8 y.toNat)) (hQ : Q (w.drew.freeze ⟨g, 0, none⟩ l.length)) :
    Calls Try.prog 56 #[.pointer (some ⟨b, 0, none⟩)] w fun e w' => e = .returned (.string ⟨l.toArray⟩) ∧ Q w' := by
  have hpos : 0 < l.length := List.length_pos_iff.2 hne
  have c1 : w.drew.cell? ⟨b, 1, none⟩ = some (.slice (some ⟨g, 0, none⟩) l.length cap) := by
    have : w.drew.heap[b]? = some (.cells #[p, .slice (some ⟨g, 0, none⟩) l.length cap] 72 (0, 0)) := hb
    rw [Lib.cell_of_heap this]; rfl
  have hSD : (Builtin.unsafeSliceData_ #[70] 97 #[.slice (some ⟨g, 0, none⟩) l.length cap]).run Try.prog w.drew = .ok (.pointer (some ⟨g, 0, none⟩)) w.drew :=
    Lib.run_unsafeSliceData_row _ _ _ _ _ _ (by omega)
  have hUS : (Builtin.unsafeString_ #[97, 3] 9 #[.pointer (some ⟨g, 0, none⟩), .int .i64 l.length]).run Try.prog w.drew = .ok (.string ⟨l.toArray⟩) (w.drew.freeze ⟨g, 0, none⟩ l.length) :=
    Lib.run_unsafeString_row w.drew _ _ _ 5 Try.underlying97 cellsU8 g cur.size (by have hg' : w.drew.heap[g]? = some (.cells cur 5 fz) := hg; simp [World.shape?, hg']) l hne (by omega) h63 hcell
  have HQ := Lib.hid hQ
  clear hQ hcell hg hb hsz hn0 hcap h63 hne hpos
  go_enter Try.func56, Try.ntmps56
  go_wp2
  go_region
  all_goals (go_wp2; go_ret; exact ⟨rfl, HQ.out⟩)

set_option maxHeartbeats 2000000 in
theorem strNone (b : Nat) (p : Value) (w : World) (Q : World → Prop) (hb : w.heap[b]? = some (.cells #[p, .slice none 0 0] 72 (0, 0))) (hQ : Q w.drew) :
    Calls Try.prog 56 #[.pointer (some ⟨b, 0, none⟩)] w fun e w' => e = .returned (.string ⟨#[]⟩) ∧ Q w' := by
  have hUS : ∀ W : World, (Builtin.unsafeString_ #[97, 3] 9 #[.pointer none, .int .i64 0]).run Try.prog W = .ok (.string .empty) W := fun W => Lib.run_unsafeString_none W _ _ _ none
  have c1 : w.drew.cell? ⟨b, 1, none⟩ = some (.slice none 0 0) := by
    have : w.drew.heap[b]? = some (.cells #[p, .slice none 0 0] 72 (0, 0)) := hb
    rw [Lib.cell_of_heap this]; rfl
  have hSD : (Builtin.unsafeSliceData_ #[70] 97 #[.slice none 0 0]).run Try.prog w.drew = .ok (.pointer none) w.drew := rfl
  have HQ := Lib.hid hQ
  clear hb hQ
  go_enter Try.func56, Try.ntmps56
  go_wp2
  go_region
  all_goals (go_wp2; go_ret; exact ⟨rfl, HQ.out⟩)

theorem two_cells {c : Array Value} (h : c.size = 2) : ∃ x y, c = #[x, y] := by
  refine ⟨c[0], c[1], ?_⟩
  apply Array.ext
  · simpa using h
  · intro i h1 h2
    have : i = 0 ∨ i = 1 := by simp at h2; omega
    rcases this with rfl | rfl <;> rfl

/-- What a call finds, as a state. -/
theorem frel_of {κ : Kap} {φ : Phi} {w : World} {objs : List PObj} (h1 : ∀ i, OR κ φ (tabOf objs) w.heap i (tabOf objs i)) (h2 : ∀ b, κ b ≠ .oth → b < w.heap.size) :
    FRel κ φ w { n := 0, R := fun _ => .bot, O := tabOf objs } { tmps := #[], defers := [] } := ⟨fun _ => .bot _, h1, h2, rfl, rfl⟩

theorem tab_set0 (p q : PObj) (r : List PObj) : setT (tabOf (p :: r)) 0 (some q) = tabOf (q :: r) := by
  funext i
  cases i with
  | zero => simp [setT, tabOf]
  | succ i => simp [setT, tabOf]
theorem tab_set1 (p q q' : PObj) (r : List PObj) : setT (tabOf (p :: q :: r)) 1 (some q') = tabOf (p :: q' :: r) := by
  funext i
  match i with
  | 0 => simp [setT, tabOf]
  | 1 => simp [setT, tabOf]
  | i + 2 => simp [setT, tabOf]

theorem copy_c (x y : RV) (r : List PObj) (hx : x = .d .nilp ∨ x = .ptr 0 0) : C Try.prog 75 [.ptr 0 0] (.box 72 [x, y] :: r) (fun v o => v = .d (.tup []) ∧ o = .box 72 [.ptr 0 0, y] :: r) := by
  intro κ φ w vs h1 h2 h3 h4
  have hs : vs.size = 1 := by simpa using h3
  have e1 : vs[0]? = some vs[0] := by simp [show 0 < vs.size by omega]
  have r0 := h4 0 _ _ rfl e1
  have hvs : vs = #[vs[0]] := by
    apply Array.ext
    · simpa using hs
    · intro i hi hi2; simp at hi2; subst hi2; rfl
  rw [hvs]
  generalize vs[0] = v0 at r0
  clear e1 hvs
  cases r0 with
  | ptr hφ =>
  rename_i b
  have ho := h1 0
  have et : tabOf (PObj.box 72 [x, y] :: r) 0 = some (.box 72 [x, y]) := rfl
  rw [et] at ho
  obtain ⟨b', c, g1, g2, g3, g4, g5, g6⟩ := ho
  rw [g1] at hφ; injection hφ with hφ; subst hφ
  obtain ⟨c0, c1, rfl⟩ := two_cells (by simpa using g4)
  have q0 := g6 0 x c0 rfl rfl
  have q1 := g6 1 y c1 rfl rfl
  have F := frel_of h1 h2
  rcases hx with rfl | rfl
  · cases q0 with
    | d hr =>
    cases hr
    refine (ccFresh b' w (by rw [Lib.cell_of_heap g3]; rfl) (by simp [World.shape?, g3]) (Lib.frozen_of_heap g3 0)).mono ?_
    rintro e w' ⟨rfl, rfl⟩
    rw [setCell_row g3]
    obtain ⟨p1, p2, p3⟩ := F.write (i := 0) (p := .box 72 [.ptr 0 0, y]) (o := .cells #[.pointer (some ⟨b', 0, none⟩), c1] 72 (0, 0)) g2 g1
      (fun c ty fz hh => by rw [g3] at hh; injection hh with hh; injection hh with a1 a2 a3; subst a1; subst a2; exact ⟨_, _, rfl, rfl⟩) (fun n hn => by simp [PObj.len?] at hn)
      (fun M => ⟨b', _, g1, g2, row_heap g3, rfl, fun v hv => by
        simp at hv
        rcases hv with rfl | rfl
        · rfl
        · exact g5 _ (by simp), fun j x v hx hv => by
        match j, hx, hv with
        | 0, hx, hv => simp at hx hv; subst hx; subst hv; exact .ptr g1
        | 1, hx, hv => simp at hx hv; subst hx; subst hv; exact q1.mono M
        | j + 2, hx, hv => simp at hx⟩)
    have et2 : setT (tabOf (PObj.box 72 [.d .nilp, y] :: r)) 0 (some (.box 72 [.ptr 0 0, y])) = tabOf (.box 72 [.ptr 0 0, y] :: r) := tab_set0 _ _ _
    simp only [et2] at p1 p2
    exact ⟨_, _, _, κ, φ, rfl, ⟨rfl, rfl⟩, .d (.tup rfl (by simp)), p1.objs, p1.bnd, by simp, p3, p2.kp⟩
  · cases q0 with
    | ptr hp =>
    rename_i b2
    have : b2 = b' := by rw [g1] at hp; injection hp with hp; exact hp.symm
    subst this
    refine (ccUsed b2 w (by rw [Lib.cell_of_heap g3]; rfl)).mono ?_
    rintro e w' ⟨rfl, rfl⟩
    exact ⟨_, _, _, κ, φ, rfl, ⟨rfl, rfl⟩, .d (.tup rfl (by simp)), h1, h2, by simp, Fr.refl _ _, Kp.refl _ _⟩

def isB : DV → Bool
  | .int .u8 n => decide (0 ≤ n ∧ n < 256)
  | _ => false
theorem isB_spec {x : DV} (h : isB x = true) : x = .int .u8 (x.byte.toNat : Int) := by
  unfold isB at h
  split at h
  · rename_i n
    simp only [decide_eq_true_eq] at h
    simp only [DV.byte, DV.int.injEq, true_and]
    have : n.toNat < 256 := by omega
    rw [UInt8.toNat_ofNat_of_lt' (by simpa using this)]; omega
  · cases h
theorem isB_scal {x : DV} (h : isB x = true) : x.cells = [x] := by rw [isB_spec h]; rfl

theorem str_c (p : RV) (els : List DV) (r : List PObj) (hb : els.all isB = true) (hne : els ≠ []) (hbig : els.length ≤ 1099511627776) : C Try.prog 56 [.ptr 0 0] (.box 72 [p, .own 1 1] :: .arr 5 1 els :: r)
    (fun v o => v = .d (.str (els.map DV.byte)) ∧ o = .box 72 [p, .own 1 1] :: .gone :: r) := by
  intro κ φ w vs h1 h2 h3 h4
  have hs : vs.size = 1 := by simpa using h3
  have e1 : vs[0]? = some vs[0] := by simp [show 0 < vs.size by omega]
  have r0 := h4 0 _ _ rfl e1
  have hvs : vs = #[vs[0]] := by
    apply Array.ext
    · simpa using hs
    · intro i hi hi2; simp at hi2; subst hi2; rfl
  rw [hvs]
  generalize vs[0] = v0 at r0
  clear e1 hvs
  cases r0 with
  | ptr hφ =>
  rename_i b
  have ho := h1 0
  have et : tabOf (PObj.box 72 [p, .own 1 1] :: .arr 5 1 els :: r) 0 = some (.box 72 [p, .own 1 1]) := rfl
  rw [et] at ho
  obtain ⟨b', c, g1, g2, g3, g4, g5, g6⟩ := ho
  rw [g1] at hφ; injection hφ with hφ; subst hφ
  obtain ⟨c0, c1, rfl⟩ := two_cells (by simpa using g4)
  have q1 := g6 1 (.own 1 1) c1 rfl rfl
  have ho1 := h1 1
  have et1 : tabOf (PObj.box 72 [p, .own 1 1] :: .arr 5 1 els :: r) 1 = some (.arr 5 1 els) := rfl
  rw [et1] at ho1
  rcases ho1 with ⟨_, k⟩ | ⟨g, cur, fz, k1, k2, k3, k4, k5⟩
  · exact absurd k hne
  · cases q1 with
    | ownNil hp => rw [k1] at hp; cases hp
    | own hp hb0 hcap hlc hlen =>
      rename_i g' len cap c' ty' fz'
      have : g' = g := by rw [k1] at hp; injection hp with hp; exact hp.symm
      subst this
      have hl := hlen els.length (by rw [et1]; rfl)
      subst hl
      rw [k3] at hb0; injection hb0 with hb0; injection hb0 with a1 a2 a3; subst a1; subst a2; subst a3
      have hlm : (els.map DV.byte).length = els.length := by simp
      have F := frel_of h1 h2
      obtain ⟨k51, k52, k53⟩ := k5
      have hcells : ∀ (j : Nat) (y : UInt8), (els.map DV.byte)[j]? = some y → w.cell? ((⟨g', 0, none⟩ : Addr).add j) = some (.int .u8 y.toNat) := by
        intro j y hy
        have hj : j < els.length := by simpa using (List.getElem?_eq_some_iff.1 hy).1
        have hx : els[j]? = some els[j] := by simp [hj]
        have hB := List.all_eq_true.1 hb els[j] (by simp)
        have hcj : cur[j]? = some cur[j] := by simp [show j < cur.size by omega]
        have hd := k53 j _ 0 els[j] cur[j] hx (by rw [isB_scal hB]; rfl) (by simp [hcj])
        rw [isB_spec hB] at hd
        rw [add_at, Am.cell_at k3, Nat.zero_add, hcj]
        have hyy : y = els[j].byte := by simp [hj] at hy; exact hy.symm
        subst hyy
        generalize cur[j] = cv at hd
        cases hd; rfl
      have hw' : ∀ (k : Nat), k ≠ g' → (w.drew.freeze ⟨g', 0, none⟩ els.length).heap[k]? = w.heap[k]? := by
        intro k hk
        unfold World.freeze
        split
        · rfl
        · simp only [Array.getElem?_modify]
          rw [if_neg (fun e => hk e.symm)]; rfl
      have hwg : ∃ fz2, (w.drew.freeze ⟨g', 0, none⟩ els.length).heap[g']? = some (.cells cur 5 fz2) := by
        have k3' : w.drew.heap[g']? = some (.cells cur 5 fz) := k3
        unfold World.freeze
        split
        · exact ⟨_, k3'⟩
        · simp only [Array.getElem?_modify, k3']
          simp
      have hsz : (w.drew.freeze ⟨g', 0, none⟩ els.length).heap.size = w.heap.size := by unfold World.freeze; split <;> simp
      have hos : (w.drew.freeze ⟨g', 0, none⟩ els.length).os = w.os ∧ (w.drew.freeze ⟨g', 0, none⟩ els.length).output = w.output := by unfold World.freeze; split <;> exact ⟨rfl, rfl⟩
      refine (strWalk b' g' cap cur.size (els.map DV.byte) c0 w (fun w' => w' = w.drew.freeze ⟨g', 0, none⟩ els.length) fz cur (by simpa using hne) (by rw [hlm]; exact hlc) (by rw [hlm]; omega) (by rw [hlm]; exact g3) k3 rfl (by rw [hlm]; omega) hcells (by rw [hlm])).mono ?_
      rintro e w' ⟨rfl, rfl⟩
      obtain ⟨fz2, hwg⟩ := hwg
      obtain ⟨p1, p2, p3⟩ := F.upd1 (i := 1) (p := .gone) (κ' := κ) (φ' := φ) (w' := w.drew.freeze ⟨g', 0, none⟩ els.length) (by omega) (fun _ h => h) (fun _ _ _ _ h => h) (fun _ _ h => h)
        (fun k _ hk _ => hw' k (fun e => by subst e; exact hk k2)) (fun _ _ => rfl) (fun _ => rfl)
        (fun k c ty fz hk => by
          by_cases e : k = g'
          · subst e; rw [k3] at hk; injection hk with hk; injection hk with a1 a2 a3; subst a1; subst a2; exact ⟨_, _, hwg, rfl⟩
          · exact ⟨c, fz, by rw [hw' k e]; exact hk, rfl⟩) (fun _ n hn => by simp [PObj.len?] at hn) (fun k hk => by rw [hsz]; exact h2 k hk) (fun _ => trivial) hos
      have et2 : setT (tabOf (PObj.box 72 [p, .own 1 1] :: .arr 5 1 els :: r)) 1 (some .gone) = tabOf (.box 72 [p, .own 1 1] :: .gone :: r) := tab_set1 _ _ _ _
      simp only [et2] at p1 p2
      exact ⟨_, _, _, κ, φ, rfl, ⟨rfl, rfl⟩, .d (.str _), p1.objs, p1.bnd, by simp, p3, p2.kp⟩

theorem str0_c (p : RV) (r : List PObj) : C Try.prog 56 [.ptr 0 0] (.box 72 [p, .d (.lst 0 [] true)] :: r)
    (fun v o => v = .d (.str []) ∧ o = .box 72 [p, .d (.lst 0 [] true)] :: r) := by
  intro κ φ w vs h1 h2 h3 h4
  have hs : vs.size = 1 := by simpa using h3
  have e1 : vs[0]? = some vs[0] := by simp [show 0 < vs.size by omega]
  have r0 := h4 0 _ _ rfl e1
  have hvs : vs = #[vs[0]] := by
    apply Array.ext
    · simpa using hs
    · intro i hi hi2; simp at hi2; subst hi2; rfl
  rw [hvs]
  generalize vs[0] = v0 at r0
  clear e1 hvs
  cases r0 with
  | ptr hφ =>
  rename_i b
  have ho := h1 0
  have et : tabOf (PObj.box 72 [p, .d (.lst 0 [] true)] :: r) 0 = some (.box 72 [p, .d (.lst 0 [] true)]) := rfl
  rw [et] at ho
  obtain ⟨b', c, g1, g2, g3, g4, g5, g6⟩ := ho
  rw [g1] at hφ; injection hφ with hφ; subst hφ
  obtain ⟨c0, c1, rfl⟩ := two_cells (by simpa using g4)
  have q1 := g6 1 (.d (.lst 0 [] true)) c1 rfl rfl
  cases q1 with
  | d hr =>
  have hc1 : c1 = .slice none 0 0 := by
    cases hr with
    | lst0 hf => have := hf rfl; rw [this.1, this.2 rfl]
    | lst _ _ hf _ _ _ _ => have := (hf rfl).2; omega
  subst hc1
  have F := frel_of h1 h2
  refine (strNone b' c0 w (fun w' => w' = w.drew) g3 rfl).mono ?_
  rintro e w' ⟨rfl, rfl⟩
  exact ⟨_, _, _, κ, φ, rfl, ⟨rfl, rfl⟩, .d (.str _), h1, h2, by simp, ⟨Nat.le_refl _, fun _ hb => ⟨hb, rfl⟩, fun _ _ hb => ⟨hb, rfl⟩, fun _ c _ fz hc => ⟨c, fz, hc, rfl⟩, rfl, rfl⟩, Kp.refl _ _⟩

def isPtrOr : RV → Bool
  | .d .nilp => true
  | .ptr 0 0 => true
  | _ => false
def copyE : Ent := fun a o => match a, o with
  | [.ptr 0 0], .box T [x, y] :: r => bif Nat.beq T 72 && isPtrOr x then some (.d (.tup []), .box T [.ptr 0 0, y] :: r, []) else none
  | _, _ => none
theorem copy_ent : EntOk Try.prog 75 copyE := by
  intro a o r o' c hg _
  unfold copyE at hg
  split at hg
  · rename_i T x y rr
    cases hb : (Nat.beq T 72 && isPtrOr x) with
    | false => rw [hb] at hg; simp at hg
    | true =>
      rw [hb] at hg; simp only [cond_true, Option.some.injEq, Prod.mk.injEq] at hg
      obtain ⟨rfl, rfl, rfl⟩ := hg
      simp only [Bool.and_eq_true] at hb
      have := nbE hb.1; subst this
      refine copy_c x y rr ?_
      have := hb.2
      unfold isPtrOr at this
      split at this
      · exact .inl rfl
      · exact .inr rfl
      · cases this
  · cases hg
def strE : Ent := fun a o => match a, o with
  | [.ptr 0 0], .box T [p, .own 1 1] :: .arr E 1 els :: r => bif Nat.beq T 72 && Nat.beq E 5 then some (.d (.str (els.map DV.byte)), .box T [p, .own 1 1] :: .gone :: r, [els.all isB, !els.isEmpty, decide (els.length ≤ 1099511627776)]) else none
  | [.ptr 0 0], .box T [p, .d (.lst 0 [] true)] :: r => bif Nat.beq T 72 then some (.d (.str []), .box T [p, .d (.lst 0 [] true)] :: r, []) else none
  | _, _ => none
theorem str_ent : EntOk Try.prog 56 strE := by
  intro a o r o' c hg hc
  unfold strE at hg
  split at hg
  · rename_i T p E els rr
    cases hb : (Nat.beq T 72 && Nat.beq E 5) with
    | false => rw [hb] at hg; simp at hg
    | true =>
      rw [hb] at hg; simp only [cond_true, Option.some.injEq, Prod.mk.injEq] at hg
      obtain ⟨rfl, rfl, rfl⟩ := hg
      simp only [Bool.and_eq_true] at hb
      have := nbE hb.1; subst this
      have := nbE hb.2; subst this
      have h0 := hc _ (by simp : els.all isB ∈ [els.all isB, !els.isEmpty, decide (els.length ≤ 1099511627776)])
      have h1 := hc _ (by simp : (!els.isEmpty) ∈ [els.all isB, !els.isEmpty, decide (els.length ≤ 1099511627776)])
      have h2 := hc _ (by simp : decide (els.length ≤ 1099511627776) ∈ [els.all isB, !els.isEmpty, decide (els.length ≤ 1099511627776)])
      exact str_c p els rr h0 (by rintro rfl; simp at h1) (by simpa using h2)
  · rename_i T p rr
    cases hb : Nat.beq T 72 with
    | false => rw [hb] at hg; simp at hg
    | true =>
      rw [hb] at hg; simp only [cond_true, Option.some.injEq, Prod.mk.injEq] at hg
      obtain ⟨rfl, rfl, rfl⟩ := hg
      have := nbE hb; subst this
      exact str0_c p rr
  · cases hg
end Go.Proofs.Ytljfolepmkcjlaa
