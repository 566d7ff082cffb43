/-
  Texts that the claim leans on, one behind the other, part 4.
-/
import Derived.Test.YtljfolepmkcjlaaXb3
import Derived.Test.YtljfolepmkcjlaaChecked
import Derived.Lib.Builder
import Derived.Lib.UnsafeStr
import Derived.Lib.Hide
import Derived.RegionTactic
import Derived.WalkKit
import Derived.Laws.Externs
import Derived.Test.YtljfolepmkcjlaaShelf
import Derived.Below
import Derived.Maps.AppendAt
import Derived.OwnWalk
import Derived.Deep.OwnRows
import Derived.Deep.AppendLies
import Derived.WalkSmall
import Derived.Laws.IdiomStrings
import Derived.Laws.Rows
import Derived.KernelRfl
import Derived.BigQuiet
import Derived.Deep.QuietTactic
import Derived.Deep.RegionWith
import Derived.Laws.ResultCell
import Derived.Outline
import Derived.Lib.AppendStr
import Derived.Lib.Bytealg
import Derived.IntWalk

/-
  strings.Builder for the abstract machine: copyCheck and String by contracts; the other methods are run.
-/
namespace Go.Proofs.Ytljfolepmkcjlaa
open Go.RowKit Am
set_option maxRecDepth 100000

theorem bT_size : (Try.prog.info? 72).map (fun i => decide (i.size ≠ 0)) = some true := by kernel_rfl
theorem bT_lies : liesAt Try.prog Try.prog.depth 72 (2 / Try.prog.cellsOf 72) 0 72 1 = true := by kernel_rfl
theorem cellsU8 : Try.prog.cellsOf 5 = 1 := by kernel_rfl

set_option maxHeartbeats 1000000 in
theorem ccUsed (b : Nat) (w : World) (h0 : w.cell? ⟨b, 0, none⟩ = some (.pointer (some ⟨b, 0, none⟩))) :
    Calls Try.prog 75 #[.pointer (some ⟨b, 0, none⟩)] w fun e w' => e = .returned (.tuple #[]) ∧ w' = w := by
  obtain ⟨j, hj, _⟩ := Option.map_eq_some_iff.1 bT_size
  go_enter Try.func75, Try.ntmps75
  go_wp2
  rw [Lib.run_neq_ptr_same w _ Try.underlying69 hj]
  go_wp2
  go_end0
  exact ⟨rfl, rfl⟩

set_option maxHeartbeats 1000000 in
theorem ccFresh (b : Nat) (w : World) (h0 : w.cell? ⟨b, 0, none⟩ = some (.pointer none)) (hsh : w.shape? b = some (72, 2)) (hfz : w.frozen? ⟨b, 0, none⟩ = false) :
    Calls Try.prog 75 #[.pointer (some ⟨b, 0, none⟩)] w fun e w' => e = .returned (.tuple #[]) ∧ w' = w.setCell ⟨b, 0, none⟩ (.pointer (some ⟨b, 0, none⟩)) := by
  obtain ⟨j, hj, hjs⟩ := Option.map_eq_some_iff.1 bT_size
  go_enter Try.func75, Try.ntmps75
  go_wp2
  rw [Lib.run_to_unsafe w ⟨b, 0, none⟩ Try.underlying69 Try.underlying103 hj (by simpa using hjs) hsh (Nat.zero_lt_succ 1)]
  simp only [Result.andThen]
  rw [Oper.upon_value]
  go_wp2
  rw [run_callFunc_extern Try.func89 (by kernel_rfl) (by kernel_rfl) (by kernel_rfl) (e := Extern.AbiNoEscape.same) (by kernel_rfl)]
  rw [Lib.run_noEscape]
  simp only [Result.andThen]
  rw [Oper.upon_value]
  go_wp2
  rw [Lib.run_from_unsafe w ⟨b, 0, none⟩ Try.underlying103 Try.underlying69 hj hsh bT_lies]
  simp only [Result.andThen]
  rw [Oper.upon_value]
  go_wp2
  go_end0
  exact ⟨rfl, rfl⟩

set_option maxHeartbeats 2000000 in
theorem strWalk (b g cap n0 : Nat) (l : List UInt8) (p : Value) (w : World) (Q : World → Prop) (fz : Nat × Nat) (cur : Array Value) (hne : l ≠ []) (hcap : l.length ≤ cap) (h63 : l.length ≤ 9223372036854775807)
    (hb : w.heap[b]? = some (.cells #[p, .slice (some ⟨g, 0, none⟩) l.length cap] 72 (0, 0))) (hg : w.heap[g]? = some (.cells cur 5 fz)) (hsz : cur.size = n0) (hn0 : l.length ≤ n0)
    (hcell : ∀ (j : Nat) (y : UInt8), l[j]? = some y → w.cell? ((⟨g, 0, none⟩ : Addr).add j) = some (.int .u8 y.toNat)) (hQ : Q (w.drew.freeze ⟨g, 0, none⟩ l.length)) :
    Calls Try.prog 56 #[.pointer (some ⟨b, 0, none⟩)] w fun e w' => e = .returned (.string ⟨l.toArray⟩) ∧ Q w' := by
  have hpos : 0 < l.length := List.length_pos_iff.2 hne
  have c1 : w.drew.cell? ⟨b, 1, none⟩ = some (.slice (some ⟨g, 0, none⟩) l.length cap) := by
    have : w.drew.heap[b]? = some (.cells #[p, .slice (some ⟨g, 0, none⟩) l.length cap] 72 (0, 0)) := hb
    rw [Lib.cell_of_heap this]; rfl
  have hSD : (Builtin.unsafeSliceData_ #[70] 97 #[.slice (some ⟨g, 0, none⟩) l.length cap]).run Try.prog w.drew = .ok (.pointer (some ⟨g, 0, none⟩)) w.drew :=
    Lib.run_unsafeSliceData_row _ _ _ _ _ _ (by omega)
  have hUS : (Builtin.unsafeString_ #[97, 3] 9 #[.pointer (some ⟨g, 0, none⟩), .int .i64 l.length]).run Try.prog w.drew = .ok (.string ⟨l.toArray⟩) (w.drew.freeze ⟨g, 0, none⟩ l.length) :=
    Lib.run_unsafeString_row w.drew _ _ _ 5 Try.underlying97 cellsU8 g cur.size (by have hg' : w.drew.heap[g]? = some (.cells cur 5 fz) := hg; simp [World.shape?, hg']) l hne (by omega) h63 hcell
  have HQ := Lib.hid hQ
  clear hQ hcell hg hb hsz hn0 hcap h63 hne hpos
  go_enter Try.func56, Try.ntmps56
  go_wp2
  go_region
  all_goals (go_wp2; go_ret; exact ⟨rfl, HQ.out⟩)

set_option maxHeartbeats 2000000 in
theorem strNone (b : Nat) (p : Value) (w : World) (Q : World → Prop) (hb : w.heap[b]? = some (.cells #[p, .slice none 0 0] 72 (0, 0))) (hQ : Q w.drew) :
    Calls Try.prog 56 #[.pointer (some ⟨b, 0, none⟩)] w fun e w' => e = .returned (.string ⟨#[]⟩) ∧ Q w' := by
  have hUS : ∀ W : World, (Builtin.unsafeString_ #[97, 3] 9 #[.pointer none, .int .i64 0]).run Try.prog W = .ok (.string .empty) W := fun W => Lib.run_unsafeString_none W _ _ _ none
  have c1 : w.drew.cell? ⟨b, 1, none⟩ = some (.slice none 0 0) := by
    have : w.drew.heap[b]? = some (.cells #[p, .slice none 0 0] 72 (0, 0)) := hb
    rw [Lib.cell_of_heap this]; rfl
  have hSD : (Builtin.unsafeSliceData_ #[70] 97 #[.slice none 0 0]).run Try.prog w.drew = .ok (.pointer none) w.drew := rfl
  have HQ := Lib.hid hQ
  clear hb hQ
  go_enter Try.func56, Try.ntmps56
  go_wp2
  go_region
  all_goals (go_wp2; go_ret; exact ⟨rfl, HQ.out⟩)

theorem two_cells {c : Array Value} (h : c.size = 2) : ∃ x y, c = #[x, y] := by
  refine ⟨c[0], c[1], ?_⟩
  apply Array.ext
  · simpa using h
  · intro i h1 h2
    have : i = 0 ∨ i = 1 := by simp at h2; omega
    rcases this with rfl | rfl <;> rfl

/-- What a call finds, as a state. -/
theorem frel_of {κ : Kap} {φ : Phi} {w : World} {objs : List PObj} (h1 : ∀ i, OR κ φ (tabOf objs) w.heap i (tabOf objs i)) (h2 : ∀ b, κ b ≠ .oth → b < w.heap.size) :
    FRel κ φ w { n := 0, R := fun _ => .bot, O := tabOf objs } { tmps := #[], defers := [] } := ⟨fun _ => .bot _, h1, h2, rfl, rfl⟩

theorem tab_set0 (p q : PObj) (r : List PObj) : setT (tabOf (p :: r)) 0 (some q) = tabOf (q :: r) := by
  funext i
  cases i with
  | zero => simp [setT, tabOf]
  | succ i => simp [setT, tabOf]
theorem tab_set1 (p q q' : PObj) (r : List PObj) : setT (tabOf (p :: q :: r)) 1 (some q') = tabOf (p :: q' :: r) := by
  funext i
  match i with
  | 0 => simp [setT, tabOf]
  | 1 => simp [setT, tabOf]
  | i + 2 => simp [setT, tabOf]

theorem copy_c (x y : RV) (r : List PObj) (hx : x = .d .nilp ∨ x = .ptr 0 0) : C Try.prog 75 [.ptr 0 0] (.box 72 [x, y] :: r) (fun v o => v = .d (.tup []) ∧ o = .box 72 [.ptr 0 0, y] :: r) := by
  intro κ φ w vs h1 h2 h3 h4
  have hs : vs.size = 1 := by simpa using h3
  have e1 : vs[0]? = some vs[0] := by simp [show 0 < vs.size by omega]
  have r0 := h4 0 _ _ rfl e1
  have hvs : vs = #[vs[0]] := by
    apply Array.ext
    · simpa using hs
    · intro i hi hi2; simp at hi2; subst hi2; rfl
  rw [hvs]
  generalize vs[0] = v0 at r0
  clear e1 hvs
  cases r0 with
  | ptr hφ =>
  rename_i b
  have ho := h1 0
  have et : tabOf (PObj.box 72 [x, y] :: r) 0 = some (.box 72 [x, y]) := rfl
  rw [et] at ho
  obtain ⟨b', c, g1, g2, g3, g4, g5, g6⟩ := ho
  rw [g1] at hφ; injection hφ with hφ; subst hφ
  obtain ⟨c0, c1, rfl⟩ := two_cells (by simpa using g4)
  have q0 := g6 0 x c0 rfl rfl
  have q1 := g6 1 y c1 rfl rfl
  have F := frel_of h1 h2
  rcases hx with rfl | rfl
  · cases q0 with
    | d hr =>
    cases hr
    refine (ccFresh b' w (by rw [Lib.cell_of_heap g3]; rfl) (by simp [World.shape?, g3]) (Lib.frozen_of_heap g3 0)).mono ?_
    rintro e w' ⟨rfl, rfl⟩
    rw [setCell_row g3]
    obtain ⟨p1, p2, p3⟩ := F.write (i := 0) (p := .box 72 [.ptr 0 0, y]) (o := .cells #[.pointer (some ⟨b', 0, none⟩), c1] 72 (0, 0)) g2 g1
      (fun c ty fz hh => by rw [g3] at hh; injection hh with hh; injection hh with a1 a2 a3; subst a1; subst a2; exact ⟨_, _, rfl, rfl⟩) (fun n hn => by simp [PObj.len?] at hn)
      (fun M => ⟨b', _, g1, g2, row_heap g3, rfl, fun v hv => by
        simp at hv
        rcases hv with rfl | rfl
        · rfl
        · exact g5 _ (by simp), fun j x v hx hv => by
        match j, hx, hv with
        | 0, hx, hv => simp at hx hv; subst hx; subst hv; exact .ptr g1
        | 1, hx, hv => simp at hx hv; subst hx; subst hv; exact q1.mono M
        | j + 2, hx, hv => simp at hx⟩)
    have et2 : setT (tabOf (PObj.box 72 [.d .nilp, y] :: r)) 0 (some (.box 72 [.ptr 0 0, y])) = tabOf (.box 72 [.ptr 0 0, y] :: r) := tab_set0 _ _ _
    simp only [et2] at p1 p2
    exact ⟨_, _, _, κ, φ, rfl, ⟨rfl, rfl⟩, .d (.tup rfl (by simp)), p1.objs, p1.bnd, by simp, p3, p2.kp⟩
  · cases q0 with
    | ptr hp =>
    rename_i b2
    have : b2 = b' := by rw [g1] at hp; injection hp with hp; exact hp.symm
    subst this
    refine (ccUsed b2 w (by rw [Lib.cell_of_heap g3]; rfl)).mono ?_
    rintro e w' ⟨rfl, rfl⟩
    exact ⟨_, _, _, κ, φ, rfl, ⟨rfl, rfl⟩, .d (.tup rfl (by simp)), h1, h2, by simp, Fr.refl _ _, Kp.refl _ _⟩

def isB : DV → Bool
  | .int .u8 n => decide (0 ≤ n ∧ n < 256)
  | _ => false
theorem isB_spec {x : DV} (h : isB x = true) : x = .int .u8 (x.byte.toNat : Int) := by
  unfold isB at h
  split at h
  · rename_i n
    simp only [decide_eq_true_eq] at h
    simp only [DV.byte, DV.int.injEq, true_and]
    have : n.toNat < 256 := by omega
    rw [UInt8.toNat_ofNat_of_lt' (by simpa using this)]; omega
  · cases h
theorem isB_scal {x : DV} (h : isB x = true) : x.cells = [x] := by rw [isB_spec h]; rfl

theorem str_c (p : RV) (els : List DV) (r : List PObj) (hb : els.all isB = true) (hne : els ≠ []) (hbig : els.length ≤ 1099511627776) : C Try.prog 56 [.ptr 0 0] (.box 72 [p, .own 1 1] :: .arr 5 1 els :: r)
    (fun v o => v = .d (.str (els.map DV.byte)) ∧ o = .box 72 [p, .own 1 1] :: .gone :: r) := by
  intro κ φ w vs h1 h2 h3 h4
  have hs : vs.size = 1 := by simpa using h3
  have e1 : vs[0]? = some vs[0] := by simp [show 0 < vs.size by omega]
  have r0 := h4 0 _ _ rfl e1
  have hvs : vs = #[vs[0]] := by
    apply Array.ext
    · simpa using hs
    · intro i hi hi2; simp at hi2; subst hi2; rfl
  rw [hvs]
  generalize vs[0] = v0 at r0
  clear e1 hvs
  cases r0 with
  | ptr hφ =>
  rename_i b
  have ho := h1 0
  have et : tabOf (PObj.box 72 [p, .own 1 1] :: .arr 5 1 els :: r) 0 = some (.box 72 [p, .own 1 1]) := rfl
  rw [et] at ho
  obtain ⟨b', c, g1, g2, g3, g4, g5, g6⟩ := ho
  rw [g1] at hφ; injection hφ with hφ; subst hφ
  obtain ⟨c0, c1, rfl⟩ := two_cells (by simpa using g4)
  have q1 := g6 1 (.own 1 1) c1 rfl rfl
  have ho1 := h1 1
  have et1 : tabOf (PObj.box 72 [p, .own 1 1] :: .arr 5 1 els :: r) 1 = some (.arr 5 1 els) := rfl
  rw [et1] at ho1
  rcases ho1 with ⟨_, k⟩ | ⟨g, cur, fz, k1, k2, k3, k4, k5⟩
  · exact absurd k hne
  · cases q1 with
    | ownNil hp => rw [k1] at hp; cases hp
    | own hp hb0 hcap hlc hlen =>
      rename_i g' len cap c' ty' fz'
      have : g' = g := by rw [k1] at hp; injection hp with hp; exact hp.symm
      subst this
      have hl := hlen els.length (by rw [et1]; rfl)
      subst hl
      rw [k3] at hb0; injection hb0 with hb0; injection hb0 with a1 a2 a3; subst a1; subst a2; subst a3
      have hlm : (els.map DV.byte).length = els.length := by simp
      have F := frel_of h1 h2
      obtain ⟨k51, k52, k53⟩ := k5
      have hcells : ∀ (j : Nat) (y : UInt8), (els.map DV.byte)[j]? = some y → w.cell? ((⟨g', 0, none⟩ : Addr).add j) = some (.int .u8 y.toNat) := by
        intro j y hy
        have hj : j < els.length := by simpa using (List.getElem?_eq_some_iff.1 hy).1
        have hx : els[j]? = some els[j] := by simp [hj]
        have hB := List.all_eq_true.1 hb els[j] (by simp)
        have hcj : cur[j]? = some cur[j] := by simp [show j < cur.size by omega]
        have hd := k53 j _ 0 els[j] cur[j] hx (by rw [isB_scal hB]; rfl) (by simp [hcj])
        rw [isB_spec hB] at hd
        rw [add_at, Am.cell_at k3, Nat.zero_add, hcj]
        have hyy : y = els[j].byte := by simp [hj] at hy; exact hy.symm
        subst hyy
        generalize cur[j] = cv at hd
        cases hd; rfl
      have hw' : ∀ (k : Nat), k ≠ g' → (w.drew.freeze ⟨g', 0, none⟩ els.length).heap[k]? = w.heap[k]? := by
        intro k hk
        unfold World.freeze
        split
        · rfl
        · simp only [Array.getElem?_modify]
          rw [if_neg (fun e => hk e.symm)]; rfl
      have hwg : ∃ fz2, (w.drew.freeze ⟨g', 0, none⟩ els.length).heap[g']? = some (.cells cur 5 fz2) := by
        have k3' : w.drew.heap[g']? = some (.cells cur 5 fz) := k3
        unfold World.freeze
        split
        · exact ⟨_, k3'⟩
        · simp only [Array.getElem?_modify, k3']
          simp
      have hsz : (w.drew.freeze ⟨g', 0, none⟩ els.length).heap.size = w.heap.size := by unfold World.freeze; split <;> simp
      have hos : (w.drew.freeze ⟨g', 0, none⟩ els.length).os = w.os ∧ (w.drew.freeze ⟨g', 0, none⟩ els.length).output = w.output := by unfold World.freeze; split <;> exact ⟨rfl, rfl⟩
      refine (strWalk b' g' cap cur.size (els.map DV.byte) c0 w (fun w' => w' = w.drew.freeze ⟨g', 0, none⟩ els.length) fz cur (by simpa using hne) (by rw [hlm]; exact hlc) (by rw [hlm]; omega) (by rw [hlm]; exact g3) k3 rfl (by rw [hlm]; omega) hcells (by rw [hlm])).mono ?_
      rintro e w' ⟨rfl, rfl⟩
      obtain ⟨fz2, hwg⟩ := hwg
      obtain ⟨p1, p2, p3⟩ := F.upd1 (i := 1) (p := .gone) (κ' := κ) (φ' := φ) (w' := w.drew.freeze ⟨g', 0, none⟩ els.length) (by omega) (fun _ h => h) (fun _ _ _ _ h => h) (fun _ _ h => h)
        (fun k _ hk _ => hw' k (fun e => by subst e; exact hk k2)) (fun _ _ => rfl) (fun _ => rfl)
        (fun k c ty fz hk => by
          by_cases e : k = g'
          · subst e; rw [k3] at hk; injection hk with hk; injection hk with a1 a2 a3; subst a1; subst a2; exact ⟨_, _, hwg, rfl⟩
          · exact ⟨c, fz, by rw [hw' k e]; exact hk, rfl⟩) (fun _ n hn => by simp [PObj.len?] at hn) (fun k hk => by rw [hsz]; exact h2 k hk) (fun _ => trivial) hos
      have et2 : setT (tabOf (PObj.box 72 [p, .own 1 1] :: .arr 5 1 els :: r)) 1 (some .gone) = tabOf (.box 72 [p, .own 1 1] :: .gone :: r) := tab_set1 _ _ _ _
      simp only [et2] at p1 p2
      exact ⟨_, _, _, κ, φ, rfl, ⟨rfl, rfl⟩, .d (.str _), p1.objs, p1.bnd, by simp, p3, p2.kp⟩

theorem str0_c (p : RV) (r : List PObj) : C Try.prog 56 [.ptr 0 0] (.box 72 [p, .d (.lst 0 [] true)] :: r)
    (fun v o => v = .d (.str []) ∧ o = .box 72 [p, .d (.lst 0 [] true)] :: r) := by
  intro κ φ w vs h1 h2 h3 h4
  have hs : vs.size = 1 := by simpa using h3
  have e1 : vs[0]? = some vs[0] := by simp [show 0 < vs.size by omega]
  have r0 := h4 0 _ _ rfl e1
  have hvs : vs = #[vs[0]] := by
    apply Array.ext
    · simpa using hs
    · intro i hi hi2; simp at hi2; subst hi2; rfl
  rw [hvs]
  generalize vs[0] = v0 at r0
  clear e1 hvs
  cases r0 with
  | ptr hφ =>
  rename_i b
  have ho := h1 0
  have et : tabOf (PObj.box 72 [p, .d (.lst 0 [] true)] :: r) 0 = some (.box 72 [p, .d (.lst 0 [] true)]) := rfl
  rw [et] at ho
  obtain ⟨b', c, g1, g2, g3, g4, g5, g6⟩ := ho
  rw [g1] at hφ; injection hφ with hφ; subst hφ
  obtain ⟨c0, c1, rfl⟩ := two_cells (by simpa using g4)
  have q1 := g6 1 (.d (.lst 0 [] true)) c1 rfl rfl
  cases q1 with
  | d hr =>
  have hc1 : c1 = .slice none 0 0 := by
    cases hr with
    | lst0 hf => have := hf rfl; rw [this.1, this.2 rfl]
    | lst _ _ hf _ _ _ _ => have := (hf rfl).2; omega
  subst hc1
  have F := frel_of h1 h2
  refine (strNone b' c0 w (fun w' => w' = w.drew) g3 rfl).mono ?_
  rintro e w' ⟨rfl, rfl⟩
  exact ⟨_, _, _, κ, φ, rfl, ⟨rfl, rfl⟩, .d (.str _), h1, h2, by simp, ⟨Nat.le_refl _, fun _ hb => ⟨hb, rfl⟩, fun _ _ hb => ⟨hb, rfl⟩, fun _ c _ fz hc => ⟨c, fz, hc, rfl⟩, rfl, rfl⟩, Kp.refl _ _⟩

def isPtrOr : RV → Bool
  | .d .nilp => true
  | .ptr 0 0 => true
  | _ => false
def copyE : Ent := fun a o => match a, o with
  | [.ptr 0 0], .box T [x, y] :: r => bif Nat.beq T 72 && isPtrOr x then some (.d (.tup []), .box T [.ptr 0 0, y] :: r, []) else none
  | _, _ => none
theorem copy_ent : EntOk Try.prog 75 copyE := by
  intro a o r o' c hg _
  unfold copyE at hg
  split at hg
  · rename_i T x y rr
    cases hb : (Nat.beq T 72 && isPtrOr x) with
    | false => rw [hb] at hg; simp at hg
    | true =>
      rw [hb] at hg; simp only [cond_true, Option.some.injEq, Prod.mk.injEq] at hg
      obtain ⟨rfl, rfl, rfl⟩ := hg
      simp only [Bool.and_eq_true] at hb
      have := nbE hb.1; subst this
      refine copy_c x y rr ?_
      have := hb.2
      unfold isPtrOr at this
      split at this
      · exact .inl rfl
      · exact .inr rfl
      · cases this
  · cases hg
def strE : Ent := fun a o => match a, o with
  | [.ptr 0 0], .box T [p, .own 1 1] :: .arr E 1 els :: r => bif Nat.beq T 72 && Nat.beq E 5 then some (.d (.str (els.map DV.byte)), .box T [p, .own 1 1] :: .gone :: r, [els.all isB, !els.isEmpty, decide (els.length ≤ 1099511627776)]) else none
  | [.ptr 0 0], .box T [p, .d (.lst 0 [] true)] :: r => bif Nat.beq T 72 then some (.d (.str []), .box T [p, .d (.lst 0 [] true)] :: r, []) else none
  | _, _ => none
theorem str_ent : EntOk Try.prog 56 strE := by
  intro a o r o' c hg hc
  unfold strE at hg
  split at hg
  · rename_i T p E els rr
    cases hb : (Nat.beq T 72 && Nat.beq E 5) with
    | false => rw [hb] at hg; simp at hg
    | true =>
      rw [hb] at hg; simp only [cond_true, Option.some.injEq, Prod.mk.injEq] at hg
      obtain ⟨rfl, rfl, rfl⟩ := hg
      simp only [Bool.and_eq_true] at hb
      have := nbE hb.1; subst this
      have := nbE hb.2; subst this
      have h0 := hc _ (by simp : els.all isB ∈ [els.all isB, !els.isEmpty, decide (els.length ≤ 1099511627776)])
      have h1 := hc _ (by simp : (!els.isEmpty) ∈ [els.all isB, !els.isEmpty, decide (els.length ≤ 1099511627776)])
      have h2 := hc _ (by simp : decide (els.length ≤ 1099511627776) ∈ [els.all isB, !els.isEmpty, decide (els.length ≤ 1099511627776)])
      exact str_c p els rr h0 (by rintro rfl; simp at h1) (by simpa using h2)
  · rename_i T p rr
    cases hb : Nat.beq T 72 with
    | false => rw [hb] at hg; simp at hg
    | true =>
      rw [hb] at hg; simp only [cond_true, Option.some.injEq, Prod.mk.injEq] at hg
      obtain ⟨rfl, rfl, rfl⟩ := hg
      have := nbE hb; subst this
      exact str0_c p rr
  · cases hg
end Go.Proofs.Ytljfolepmkcjlaa

/-
  strings.Compare for the abstract machine, out of the shelf's contract.
-/
namespace Go.Proofs.Ytljfolepmkcjlaa
open Go.RowKit Am

def cmpE : DV → DV → Option (DV × List Bool)
  | .str s, .str t => some (.int .i64 (Lib.compareBytes s t), [])
  | _, _ => none
theorem cmp_ent : EntOk Try.prog 61 (e2 cmpE) := by
  refine e2_ok fun x x2 y c hg hc => ?_
  unfold cmpE at hg
  split at hg
  · rename_i s t
    simp only [Option.some.injEq, Prod.mk.injEq] at hg
    obtain ⟨rfl, rfl⟩ := hg
    refine C_flat (args := [.str s, .str t]) (us := [.string ⟨s.toArray⟩, .string ⟨t.toArray⟩]) (v := .int .i64 (Lib.compareBytes s t)) rfl rfl fun w => ?_
    refine (Try.strings_Compare ⟨s.toArray⟩ ⟨t.toArray⟩ w).mono ?_
    rintro e w' ⟨rfl, rfl⟩
    exact ⟨rfl, Below.refl _ _⟩
  · cases hg
end Go.Proofs.Ytljfolepmkcjlaa

/-
  What closed runs lean on: the contracts of strings.Builder, strings.Compare; all else is run.
-/
namespace Go.Proofs.Ytljfolepmkcjlaa
open Go.RowKit Am
set_option maxRecDepth 100000

noncomputable def tb : List (Nat × Ent) := [(75, copyE), (56, strE), (61, e2 cmpE)]
theorem tb_ok : EntsOk Try.prog tb := .cons copy_ent (.cons str_ent (.cons cmp_ent .nil))
def brf : Nat → Bool := fun f => ![56, 61].any (Nat.beq f)

theorem mixed : Try.prog.follows .mixedOrders = true := by kernel_rfl
noncomputable abbrev cok : Nat → Bool := fun f => callOk Try.prog f
def isTrue : Option (RV × List PObj × List Bool) → Bool
  | some (.d (.bool true), [], c) => c.all id
  | _ => false
theorem of_isTrue {K : Kon} (hk : KSound Try.prog K) {f : Nat} {args : List RV} (h : isTrue (K f args []) = true) : C Try.prog f args [] (fun r o => r = .d (.bool true) ∧ o = []) := by
  unfold isTrue at h
  split at h
  · rename_i c e
    exact hk.use c e h
  · cases h
theorem lay_ok (l : List (Nat × Ent)) (h : EntsOk Try.prog l) (b : Nat → Bool) (n k d : Nat) : KSound Try.prog (layer Try.prog (konOf l) b cok n k d) := layer_ok mixed (konOf_ok h) (fun _ h => h) d
theorem own : ownKnob Try.prog.godebug = none := by kernel_rfl
theorem laid : laidOutB Try.prog = true := by kernel_rfl
end Go.Proofs.Ytljfolepmkcjlaa

/-
  Small laws on memory: a slice that holds cells (nil let in), append onto a row of the call's own.
-/
namespace Go.Proofs.Ytljfolepmkcjlaa
open Go.RowKit

theorem add_plain (b off j : Nat) : (⟨b, off, none⟩ : Addr).add j = ⟨b, off + j, none⟩ := by
  unfold Addr.add; split <;> simp_all

/-- The slice '.slice A n _' holds the cells xs, sz cells an element. -/
def Sl (w : World) (sz : Nat) (A : Option Addr) (n : Nat) (xs : List Value) : Prop :=
  xs.length = n * sz ∧ (0 < n * sz → ∃ b off, A = some ⟨b, off, none⟩ ∧ ∀ j u, xs[j]? = some u → w.cell? ⟨b, off + j, none⟩ = some u)

theorem Sl.nil (w : World) (sz : Nat) (A : Option Addr) : Sl w sz A 0 [] := ⟨by simp, fun h => absurd h (by simp)⟩

theorem Sl.keep {w w' : World} {sz n : Nat} {A : Option Addr} {xs : List Value} (h : Sl w sz A n xs) (hk : ∀ b o, b < w.heap.size → w'.cell? ⟨b, o, none⟩ = w.cell? ⟨b, o, none⟩) : Sl w' sz A n xs := by
  refine ⟨h.1, fun hn => ?_⟩
  obtain ⟨b, off, e, hc⟩ := h.2 hn
  refine ⟨b, off, e, fun j u hu => ?_⟩
  have := hc j u hu
  rw [hk b _ (World.block_lt_of_cell? w _ this)]
  exact this
theorem Sl.below {w w' : World} {sz n B : Nat} {A : Option Addr} {xs : List Value} (h : Sl w sz A n xs) (hb : Below B w w') (hB : w.heap.size ≤ B) : Sl w' sz A n xs :=
  h.keep fun b o hlt => hb.cell (p := ⟨b, o, none⟩) (by exact Nat.lt_of_lt_of_le hlt hB)

theorem Sl.alloc {w : World} {sz n : Nat} {A : Option Addr} {xs : List Value} (h : Sl w sz A n xs) (o : Obj) : Sl (w.alloc o) sz A n xs := h.keep fun b o' hb => World.cell?_alloc_lt w o ⟨b, o', none⟩ hb
theorem Sl.drew {w : World} {sz n : Nat} {A : Option Addr} {xs : List Value} (h : Sl w sz A n xs) : Sl w.drew sz A n xs := h
theorem Sl.own {w : World} {base e sz n : Nat} {v : Value} {xs : List Value} (h : w.ownsRow base e sz v n xs) : ∃ A c, v = .slice A n c ∧ Sl w sz A n xs := by
  rcases h.2 with ⟨rfl, rfl⟩ | ⟨g, cap, cur, rfl, _⟩
  · have hx : xs = [] := List.eq_nil_of_length_eq_zero (by simpa using h.1)
    subst hx
    exact ⟨none, 0, rfl, Sl.nil _ _ _⟩
  · exact ⟨_, _, rfl, h.1, fun _ => ⟨g, 0, rfl, fun j u hu => by
      have := h.cells (g := g) rfl j u hu
      rwa [add_plain] at this⟩⟩

theorem own_form {w : World} {base e sz n : Nat} {v : Value} {xs : List Value} (h : w.ownsRow base e sz v n xs) (hn : 0 < n) : ∃ g cap, v = .slice (some ⟨g, 0, none⟩) n cap ∧ base ≤ g ∧ n ≤ cap ∧ g < w.heap.size := by
  rcases h.2 with ⟨rfl, rfl⟩ | ⟨g, cap, cur, rfl, hb, hg, hnc, _⟩
  · omega
  · refine ⟨g, cap, rfl, hb, hnc, ?_⟩
    rcases Nat.lt_or_ge g w.heap.size with hl | hl
    · exact hl
    · rw [Array.getElem?_eq_none hl] at hg; cases hg

section
variable {P : Program} (w : World)

theorem run_app (base : Nat) (t ty e : TypeId) (i : TypeInfo) (z : Value) (size bytes : Nat) (ht : P.underlying t = some (.slice e)) (hi : P.info? e = some i) (hz : i.zero = some z)
    (hsize : i.size = size) (hby : i.bytes = bytes) (hzs : z.cells.size = size) (hsz : 0 < size)
    (v : Value) (n : Nat) (xs : List Value) (hown : w.ownsRow base e size v n xs)
    (A : Option Addr) (m c : Nat) (news : List Value) (hs : Sl w size A m news) (h1 : ∀ u ∈ news, u.oneCell' = true)
    (h63 : n + m ≤ maxLen) (hbytes : (n + m) * bytes ≤ 140737488355328) (hbase : base ≤ w.heap.size) :
    ∃ v' w', (Builtin.append_ #[t, t] ty #[v, .slice A m c]).run P w = .ok v' w' ∧ w'.ownsRow base e size v' (n + m) (xs ++ news) ∧ w.grownBy w' v.ownBlock ∧
      (v'.ownBlock = v.ownBlock ∨ v'.ownBlock = some w.heap.size) := by
  by_cases hm : m = 0
  · subst hm
    have hn : news = [] := List.eq_nil_of_length_eq_zero (by simpa using hs.1)
    subst hn
    refine ⟨v, w, ?_, by simpa using hown, World.grownBy.refl w _, .inl rfl⟩
    rcases hown.2 with ⟨rfl, rfl⟩ | ⟨g, cap, cur, rfl, _, _, hnc, _⟩
    · cases A <;> simp [Builtin.append_, run_underlying ht, sizeOf, typeInfo, hi, Builtin.lenOf, Builtin.firstCells, loadCells, loadCellsFrom]
    · cases A <;> simp [Builtin.append_, run_underlying ht, sizeOf, typeInfo, hi, Builtin.lenOf, Builtin.firstCells, hnc, storeCells, loadCells, loadCellsFrom]
  · obtain ⟨b, off, rfl, hc⟩ := hs.2 (Nat.mul_pos (by omega) hsz)
    obtain ⟨v', w', hrun, h2, h3, _, h5⟩ := run_append_own_at (P := P) w base t ty e i z size bytes ht hi hz hsize hby hzs hsz v n xs hown ⟨b, off, none⟩ m c news hs.1
      (fun j u hu => by rw [add_plain]; exact hc j u hu) h1 h63 hbytes hbase
    exact ⟨v', w', hrun, h2, h3, h5⟩

theorem wpList_app {ops : Array Oper} {rest : List Oper} {o : Oper} {a : Act} {Q : Exit → Act → World → Prop} (hgd : o.guard = none) (s x : Operand) (t : TypeId)
    (ho : o.op = .call { callee := .builtin .append, args := #[s, x], argTypes := #[t, t] })
    (base : Nat) (e : TypeId) (i : TypeInfo) (z : Value) (size bytes : Nat) (ht : P.underlying t = some (.slice e)) (hi : P.info? e = some i) (hz : i.zero = some z)
    (hsize : i.size = size) (hby : i.bytes = bytes) (hzs : z.cells.size = size) (hsz : 0 < size)
    (v : Value) (n : Nat) (xs : List Value) (hs : a.eval s = v) (hown : w.ownsRow base e size v n xs)
    (A : Option Addr) (m c : Nat) (news : List Value) (hx : a.eval x = .slice A m c) (hr : Sl w size A m news) (h1 : ∀ u ∈ news, u.oneCell' = true)
    (h63 : n + m ≤ maxLen) (hbytes : (n + m) * bytes ≤ 140737488355328) (hbase : base ≤ w.heap.size)
    (h : ∀ v' w', w'.ownsRow base e size v' (n + m) (xs ++ news) → w.grownBy w' v.ownBlock → (v'.ownBlock = v.ownBlock ∨ v'.ownBlock = some w.heap.size) → wpList P ops Q rest (a.put o.dst v') w') : wpList P ops Q (o :: rest) a w := by
  refine wpList_plain hgd fun K hK => ?_
  obtain ⟨v', w', hrun, h2, h3, h4⟩ := run_app (P := P) w base t o.type e i z size bytes ht hi hz hsize hby hzs hsz v n xs hown A m c news hr h1 h63 hbytes hbase
  unfold Oper.wp execOp
  simp only [ho, resolve, invoke, builtin, Sem.run_bind, Sem.run_pure, Result.andThen_ok, List.map_toArray, List.map_cons, List.map_nil, hs, hx, hrun]
  exact hK _ _ (h v' w' h2 h3 h4)
end

/-! The row of the table of types for uint8, and what a list of bytes lies as. -/
theorem info_u8 : (Try.prog.info? 5).map (fun i => (i.zero, i.size, i.bytes)) = some (some (.int .u8 0), 1, 1) := by kernel_rfl

theorem cells_bytes_one (l : List UInt8) : ∀ u ∈ Lib.byteCells l, u.oneCell' = true := by
  intro u hu
  simp only [Lib.byteCells, List.mem_map] at hu
  obtain ⟨c, _, rfl⟩ := hu
  rfl
theorem cells_bytes_append (a b : List UInt8) : Lib.byteCells (a ++ b) = Lib.byteCells a ++ Lib.byteCells b := by simp [Lib.byteCells]
/-- the length of a slice value -/
def lenOf : Value → Nat | .slice _ l _ => l | _ => 0

/-- a slice literal of one byte -/
theorem own_lit_u8 (w : World) (base : Nat) (hb : base ≤ w.heap.size) (x : UInt8) (v : Int) (hv : v = (x.toNat : Int)) :
    (w.alloc (.cells #[.int .u8 v] 5)).ownsRow base 5 1 (.slice (some ⟨w.heap.size, 0, none⟩) 1 1) 1 (Lib.byteCells [x]) := by
  subst hv
  exact World.ownsRow_lit (base := base) (e := 5) (size := 1) w #[.int .u8 (x.toNat : Int)] 1 hb (by unfold maxLen; omega) rfl

/-- a slice literal of one byte, as a source -/
theorem Sl.lit_u8 (w : World) (x : UInt8) (v : Int) (hv : v = (x.toNat : Int)) : Sl (w.alloc (.cells #[.int .u8 v] 5)) 1 (some ⟨w.heap.size, 0, none⟩) 1 (Lib.byteCells [x]) := by
  obtain ⟨A, c, e, h⟩ := Sl.own (own_lit_u8 w w.heap.size (Nat.le_refl _) x v hv)
  injection e with e1 e2 e3
  subst e1
  exact h

theorem app_u8 (w : World) {ops : Array Oper} {rest : List Oper} {o : Oper} {a : Act} {Q : Exit → Act → World → Prop} (hgd : o.guard = none) (s x : Operand)
    (ho : o.op = .call { callee := .builtin .append, args := #[s, x], argTypes := #[70, 70] })
    (base : Nat) (v : Value) (n : Nat) (xs : List UInt8) (hs : a.eval s = v) (hown : w.ownsRow base 5 1 v n (Lib.byteCells xs))
    (A : Option Addr) (m c : Nat) (news : List UInt8) (hx : a.eval x = .slice A m c) (hr : Sl w 1 A m (Lib.byteCells news))
    (hbytes : n + m ≤ 140737488355328) (hbase : base ≤ w.heap.size)
    (h : ∀ v' w', w'.ownsRow base 5 1 v' (n + m) (Lib.byteCells (xs ++ news)) → w.grownBy w' v.ownBlock → (v'.ownBlock = v.ownBlock ∨ v'.ownBlock = some w.heap.size) → wpList Try.prog ops Q rest (a.put o.dst v') w') :
    wpList Try.prog ops Q (o :: rest) a w := by
  obtain ⟨i0, hi, hz0, hz1, hz2⟩ := info_parts info_u8
  refine wpList_app w hgd s x _ ho base 5 i0 (.int .u8 0) 1 1 Try.underlying70 hi hz0 hz1 hz2 rfl (by decide) v n _ hs hown A m c _ hx hr (cells_bytes_one _) (by unfold maxLen; omega) (by omega) hbase ?_
  intro v' w' h1 h2 h3
  rw [← cells_bytes_append] at h1
  exact h v' w' h1 h2 h3

theorem cells_bytes_set (l : List UInt8) (k : Nat) (c : UInt8) : (Lib.byteCells l).set k (.int .u8 (c.toNat : Int)) = Lib.byteCells (l.set k c) := by
  simp [Lib.byteCells, List.map_set]
end Go.Proofs.Ytljfolepmkcjlaa

/-
  Plain facts about the numbers' bytes (layer 1): putN, takeN, fold. No program in sight.
-/
namespace Go.Proofs.Ytljfolepmkcjlaa.Plain

abbrev Bs := List UInt8

/-- k digits to the base 128, the highest first, each with its high bit. -/
def hiK : Nat → Nat → Bs
  | 0, _ => []
  | k + 1, m => hiK k (m / 128) ++ [UInt8.ofNat (m % 128 + 128)]

/-- how many digits to the base 128 (fuel: 10 is enough below 2^64). -/
def digs : Nat → Nat → Nat
  | 0, _ => 0
  | f + 1, m => if m = 0 then 0 else digs f (m / 128) + 1

def putN (n : Nat) : Bs :=
  if n < 72057594037927936 then hiK (digs 10 (n / 128)) (n / 128) ++ [UInt8.ofNat (n % 128)]
  else hiK 8 (n / 256) ++ [UInt8.ofNat (n % 256)]

theorem hiK_zero (m : Nat) : hiK 0 m = [] := rfl
theorem hiK_succ (k m : Nat) : hiK (k + 1) m = hiK k (m / 128) ++ [UInt8.ofNat (m % 128 + 128)] := rfl

theorem hiK_length (k m : Nat) : (hiK k m).length = k := by
  induction k generalizing m with
  | zero => rfl
  | succ k ih => simp [hiK, ih]

theorem digs_bound (f m : Nat) (h : m < 128 ^ f) : m < 128 ^ (digs f m) := by
  induction f generalizing m with
  | zero => simpa [digs] using h
  | succ f ih =>
    simp only [digs]
    split
    · subst_vars; simp
    · have h2 : m / 128 < 128 ^ f := by
        rw [Nat.pow_succ] at h; omega
      have := ih (m / 128) h2
      rw [Nat.pow_succ]; omega

theorem digs_low (f m : Nat) (hm : m ≠ 0) (h : m < 128 ^ f) : 0 < digs f m ∧ 128 ^ (digs f m - 1) ≤ m := by
  induction f generalizing m with
  | zero => simp at h; omega
  | succ f ih =>
    simp only [digs, if_neg hm]
    refine ⟨by omega, ?_⟩
    simp only [Nat.add_sub_cancel]
    by_cases h0 : m / 128 = 0
    · rw [h0]
      cases f <;> simp [digs] <;> omega
    · have h2 : m / 128 < 128 ^ f := by
        rw [Nat.pow_succ] at h; omega
      obtain ⟨h3, h4⟩ := ih (m / 128) h0 h2
      have e : 128 ^ digs f (m / 128) = 128 ^ (digs f (m / 128) - 1) * 128 := by
        rw [← Nat.pow_succ]; congr 1; omega
      rw [e]; omega

theorem digs_zero (f : Nat) : digs f 0 = 0 := by cases f <;> simp [digs]

/-- the number of digits is what it has to be -/
theorem digs_eq (f m k : Nat) (h : m < 128 ^ f) (h1 : m < 128 ^ k) (h2 : k = 0 ∨ 128 ^ (k - 1) ≤ m) : digs f m = k := by
  by_cases hm : m = 0
  · subst hm
    rw [digs_zero]
    rcases h2 with h2 | h2
    · omega
    · have : 0 < 128 ^ (k - 1) := Nat.pos_of_ne_zero (by simp); omega
  · obtain ⟨a, b⟩ := digs_low f m hm h
    have c := digs_bound f m h
    rcases Nat.lt_trichotomy (digs f m) k with hlt | he | hgt
    · rcases h2 with h2 | h2
      · omega
      · have : 128 ^ digs f m ≤ 128 ^ (k - 1) := Nat.pow_le_pow_right (by omega) (by omega)
        omega
    · exact he
    · have : 128 ^ k ≤ 128 ^ (digs f m - 1) := Nat.pow_le_pow_right (by omega) (by omega)
      omega

theorem digs_fuel (f g m : Nat) (h : m < 128 ^ f) (h' : m < 128 ^ g) : digs f m = digs g m := by
  by_cases h0 : m = 0
  · subst h0; rw [digs_zero, digs_zero]
  · exact digs_eq f m _ h (digs_bound g m h') (.inr (digs_low g m h0 h').2)

theorem digs_step (m : Nat) (h : m ≠ 0) (hb : m < 18446744073709551616) : digs 10 m = digs 10 (m / 128) + 1 := by
  have e : digs 10 m = digs 9 (m / 128) + 1 := by
    show digs (9 + 1) m = _
    simp only [digs, if_neg h]
  rw [e, digs_fuel 9 10 (m / 128) (by omega) (by omega)]

theorem putN_length (n : Nat) : (putN n).length = if n < 72057594037927936 then digs 10 (n / 128) + 1 else 9 := by
  unfold putN
  split <;> simp [hiK_length]

theorem putN_length_le (n : Nat) : (putN n).length ≤ 9 := by
  rw [putN_length]
  split
  · rename_i h
    have : digs 10 (n / 128) ≤ 8 := by
      have hb : n / 128 < 128 ^ 10 := by omega
      by_cases h0 : n / 128 = 0
      · rw [h0, digs_zero]; omega
      · obtain ⟨a, b⟩ := digs_low 10 (n / 128) h0 hb
        rcases Nat.lt_or_ge 8 (digs 10 (n / 128)) with hl | hl
        · have : 128 ^ 8 ≤ 128 ^ (digs 10 (n / 128) - 1) := Nat.pow_le_pow_right (by omega) (by omega)
          omega
        · exact hl
    omega
  · omega

def foldI (i : Int) : Nat := if 0 ≤ i then (2 * i).toNat else (2 * (-(i + 1)) + 1).toNat
theorem foldI_lt (i : Int) (h1 : -9223372036854775808 ≤ i) (h2 : i ≤ 9223372036854775807) : foldI i < 18446744073709551616 := by
  unfold foldI; split <;> omega

theorem digs_le_iff (n k : Nat) (h : n < 18446744073709551616) : digs 10 n ≤ k ↔ n / 128 ^ k = 0 := by
  have hb := digs_bound 10 n (by omega)
  rw [Nat.div_eq_zero_iff]
  constructor
  · intro hk
    right
    exact Nat.lt_of_lt_of_le hb (Nat.pow_le_pow_right (by omega) hk)
  · intro hk
    rcases hk with hk | hk
    · have := Nat.pos_of_ne_zero (show (128 : Nat) ^ k ≠ 0 by simp); omega
    · rcases Nat.lt_or_ge k (digs 10 n) with hl | hl
      · exfalso
        by_cases h0 : n = 0
        · subst h0; rw [digs_zero] at hl; omega
        · have := (digs_low 10 n h0 (by omega)).2
          have h2 : 128 ^ k ≤ 128 ^ (digs 10 n - 1) := Nat.pow_le_pow_right (by omega) (by omega)
          omega
      · exact hl

/-- k digits to the base 128, plain -/
def dgL : Nat → Nat → Bs
  | 0, _ => []
  | k + 1, m => dgL k (m / 128) ++ [UInt8.ofNat (m % 128)]
theorem dgL_succ (k m : Nat) : dgL (k + 1) m = dgL k (m / 128) ++ [UInt8.ofNat (m % 128)] := rfl
theorem dgL_front (k m : Nat) : dgL (k + 1) m = UInt8.ofNat (m / 128 ^ k % 128) :: dgL k m := by
  induction k generalizing m with
  | zero => simp [dgL]
  | succ k ih =>
    rw [dgL_succ, ih (m / 128), dgL_succ k m, List.cons_append]
    congr 2
    rw [Nat.div_div_eq_div_mul, Nat.pow_succ, Nat.mul_comm (128 ^ k)]
/-- the first k bytes with their high bits -/
def upTo (k : Nat) (l : Bs) : Bs := (l.take k).map (· + 128) ++ l.drop k
theorem upTo_get (k : Nat) (l : Bs) (h : k < l.length) : (upTo k l)[k]? = some l[k] := by
  unfold upTo
  rw [List.getElem?_append_right (by simp; omega)]
  simp [Nat.min_eq_left (Nat.le_of_lt h), h]
theorem upTo_step (k : Nat) (l : Bs) (h : k < l.length) : (upTo k l).set k (l[k] + 128) = upTo (k + 1) l := by
  unfold upTo
  rw [List.set_append_right _ _ (by simp; omega)]
  simp only [List.length_map, List.length_take, Nat.min_eq_left (Nat.le_of_lt h), Nat.sub_self]
  rw [List.drop_eq_getElem_cons h, List.set_cons_zero, List.take_succ_eq_append_getElem h, List.map_append, List.append_assoc]
  rfl
end Go.Proofs.Ytljfolepmkcjlaa.Plain

/-
  Plain facts about rows and their records (layers 7 and 9). No program in sight.
-/
namespace Go.Proofs.Ytljfolepmkcjlaa.Plain

/-- A value: kind, number, text. -/
structure Val where
  k : Int
  n : Int
  s : Bs
  deriving DecidableEq

/-- the numbers fit their kinds -/
def Val.wf (v : Val) : Prop := 0 ≤ v.k ∧ v.k ≤ 255 ∧ -9223372036854775808 ≤ v.n ∧ v.n ≤ 9223372036854775807

def chk (v : Val) : Int :=
  if v.k > 3 ∨ (v.k ≠ 1 ∧ v.n ≠ 0) ∨ (v.k < 2 ∧ v.s ≠ []) then 2 else if v.s.length > 1000 then 3 else 0

def chkAll : List Val → Int
  | [] => 0
  | v :: r => if chk v ≠ 0 then chk v else chkAll r

def chkRow (l : List Val) : Int := if l.length > 16 then 90 else chkAll l

def tagN (v : Val) : Nat :=
  if v.k = 1 then 1 else if v.k = 2 then 2 * v.s.length + 2 else if v.k = 3 then 2 * v.s.length + 3 else 0
def bodyL (v : Val) : Bs := if v.k = 1 then putN (foldI v.n) else v.s
def tagsL (l : List Val) : Bs := l.flatMap fun v => putN (tagN v)
def bodiesL (l : List Val) : Bs := l.flatMap bodyL
def allL (l : List Val) : Bs := UInt8.ofNat l.length :: (tagsL l ++ bodiesL l)

def putRow (l : List Val) : Bs × Int :=
  if chkRow l ≠ 0 then ([], chkRow l) else if (allL l).length > 4000 then ([], 3) else (allL l, 0)
theorem chkAll_zero {l : List Val} : chkAll l = 0 ↔ ∀ v ∈ l, chk v = 0 := by
  induction l with
  | nil => simp [chkAll]
  | cons v r ih =>
    simp only [chkAll]
    by_cases h : chk v = 0
    · simp [h, ih]
    · simp [h]

theorem chk_zero {v : Val} (h : chk v = 0) : v.k ≤ 3 ∧ (v.k = 1 ∨ v.n = 0) ∧ (2 ≤ v.k ∨ v.s = []) ∧ v.s.length ≤ 1000 := by
  unfold chk at h
  split at h
  · omega
  · rename_i h1
    split at h
    · omega
    · refine ⟨by omega, ?_, ?_, by omega⟩
      · by_cases h3 : v.k = 1
        · exact .inl h3
        · right; by_cases h4 : v.n = 0
          · exact h4
          · exact absurd (.inr (.inl ⟨h3, h4⟩)) h1
      · by_cases h3 : v.k < 2
        · right; by_cases h4 : v.s = []
          · exact h4
          · exact absurd (.inr (.inr ⟨h3, h4⟩)) h1
        · left; omega

theorem chkRow_zero {l : List Val} (h : chkRow l = 0) : l.length ≤ 16 ∧ ∀ v ∈ l, chk v = 0 := by
  unfold chkRow at h
  split at h
  · omega
  · exact ⟨by omega, chkAll_zero.1 h⟩

theorem tagN_lt (v : Val) (h : chk v = 0) : tagN v < 18446744073709551616 := by
  obtain ⟨_, _, _, h4⟩ := chk_zero h
  unfold tagN; split <;> (try split) <;> (try split) <;> omega

theorem putRow_ok {l : List Val} (h : (putRow l).2 = 0) : chkRow l = 0 ∧ (allL l).length ≤ 4000 ∧ (putRow l).1 = allL l := by
  unfold putRow at *
  split at h
  · rename_i h1; exact absurd h h1
  · rename_i h1
    split at h
    · simp at h
    · rename_i h2
      rw [if_neg h1, if_neg h2]
      exact ⟨by omega, by omega, rfl⟩

theorem bodyL_length_le (v : Val) (h : chk v = 0) : (bodyL v).length ≤ 1000 := by
  obtain ⟨_, _, _, h4⟩ := chk_zero h
  unfold bodyL
  split
  · have := putN_length_le (foldI v.n); omega
  · exact h4

theorem tagsL_length_le (l : List Val) : (tagsL l).length ≤ 9 * l.length := by
  induction l with
  | nil => simp [tagsL]
  | cons v r ih =>
    have := putN_length_le (tagN v)
    simp [tagsL] at *
    omega

theorem bodiesL_length_le (l : List Val) (h : ∀ v ∈ l, chk v = 0) : (bodiesL l).length ≤ 1000 * l.length := by
  induction l with
  | nil => simp [bodiesL]
  | cons v r ih =>
    have h1 := bodyL_length_le v (h v (by simp))
    have h2 := ih (fun x hx => h x (by simp [hx]))
    simp [bodiesL] at *
    omega
end Go.Proofs.Ytljfolepmkcjlaa.Plain

/-
  The walks of value.bare, value.Check, counterfoilref07.Check: what they answer at any value.
-/
namespace Go.Proofs.Ytljfolepmkcjlaa
open Go.RowKit Plain

/-- a value as the program has it -/
def vOf (v : Val) : Value := .agg #[.int .u8 v.k, .int .i64 v.n, .string ⟨v.s.toArray⟩]

def bareV (v : Val) : Val :=
  if v.k = 1 then ⟨v.k, v.n, []⟩ else if v.k = 2 ∨ v.k = 3 then ⟨v.k, 0, v.s⟩ else ⟨v.k, 0, []⟩

set_option maxHeartbeats 400000 in
theorem bare_any (k n : Int) (s : Bs) (w : World) :
    Calls Try.prog 102 #[.agg #[.int .u8 k, .int .i64 n, .string ⟨s.toArray⟩]] w fun e w' => e = .returned (vOf (bareV ⟨k, n, s⟩)) ∧ Below w.heap.size w w' := by
  by_cases h1 : k = 1
  · subst h1
    go_enter Try.func102, Try.ntmps102
    go_wp2
    exact bodyPost_ret (v := .agg #[.int .u8 1, .int .i64 n, .string ⟨#[]⟩]) (by simp [results, Try.results102, go_sem]) rfl ⟨rfl, ((((Below.refl _ _).alloc (Nat.le_refl _) _).alloc (by simp) _))⟩
  · by_cases h2 : k = 2
    · subst h2
      go_enter Try.func102, Try.ntmps102
      go_wp2
      exact bodyPost_ret (v := .agg #[.int .u8 2, .int .i64 0, .string ⟨s.toArray⟩]) (by simp [results, Try.results102, go_sem]) rfl ⟨rfl, ((((Below.refl _ _).alloc (Nat.le_refl _) _).alloc (by simp) _))⟩
    · by_cases h3 : k = 3
      · subst h3
        go_enter Try.func102, Try.ntmps102
        go_wp2
        exact bodyPost_ret (v := .agg #[.int .u8 3, .int .i64 0, .string ⟨s.toArray⟩]) (by simp [results, Try.results102, go_sem]) rfl ⟨rfl, ((((Below.refl _ _).alloc (Nat.le_refl _) _).alloc (by simp) _))⟩
      · have e1 : (k == 1) = false := by simpa using h1
        have e2 : (k == 2) = false := by simpa using h2
        have e3 : (k == 3) = false := by simpa using h3
        go_enter Try.func102, Try.ntmps102
        go_wp2
        exact bodyPost_ret (v := .agg #[.int .u8 k, .int .i64 0, .string ⟨#[]⟩]) (by simp [results, Try.results102, go_sem]) rfl ⟨by simp [bareV, vOf, h1, h2, h3], ((((Below.refl _ _).alloc (Nat.le_refl _) _).alloc (by simp) _))⟩

theorem bareV_eq (v : Val) : (v.k > 3 ∨ v ≠ bareV v) ↔ (v.k > 3 ∨ (v.k ≠ 1 ∧ v.n ≠ 0) ∨ (v.k < 2 ∧ v.s ≠ [])) := by
  obtain ⟨k, n, s⟩ := v
  unfold bareV
  simp only
  split
  · rename_i h; subst h; simp
  · rename_i h1
    split
    · rename_i h2
      simp only [ne_eq, Val.mk.injEq, true_and, and_true]
      constructor
      · rintro (h | h)
        · exact .inl h
        · exact .inr (.inl ⟨h1, h⟩)
      · rintro (h | h | h)
        · exact .inl h
        · exact .inr h.2
        · omega
    · rename_i h2
      simp only [ne_eq, Val.mk.injEq, true_and]
      by_cases h3 : k > 3
      · simp [h3]
      · by_cases h4 : n = 0
        · subst h4
          by_cases h5 : s = []
          · simp [h5]
          · simp only [h5, and_false, not_false_eq_true, or_true, true_iff]
            by_cases h6 : k < 2
            · simp [h6]
            · omega
        · simp [h1, h4]

/-! ### two values held against each other -/
theorem valT_st : Try.prog.stoodInHeld 49 = false := by kernel_rfl
theorem valT_eg : Try.prog.eqGuardType Try.prog.depth 49 = false := by kernel_rfl
theorem valT_un : Try.prog.underlying 49 = some (.struct (Try.prog.fieldsOf 49)) := by kernel_rfl
theorem valT_fs : Try.prog.fieldsOf 49 = #[{ name := "Kind", type := 5, offset := 0, embedded := false, tag := "", pkgPath := "", byteOffset := 0 }, { name := "N", type := 2, offset := 1, embedded := false, tag := "", pkgPath := "", byteOffset := 8 }, { name := "S", type := 9, offset := 2, embedded := false, tag := "", pkgPath := "", byteOffset := 16 }] := by kernel_rfl
theorem run_eqv (w : World) (v v' : Val) : (Op.equalIn 10000 49 (vOf v) (vOf v')).run Try.prog w = .ok (decide (v = v')) w := by
  unfold vOf
  rw [show (10000 : Nat) = 9999 + 1 from rfl, run_equalIn_agg w 9999 _ _ _ valT_un valT_st, valT_fs]
  obtain ⟨k, n, s⟩ := v
  obtain ⟨k', n', s'⟩ := v'
  simp [Op.eqFields, part, go_sem]
  by_cases h1 : k = k' <;> by_cases h2 : n = n' <;> by_cases h3 : s = s' <;> simp [h1, h2, h3]

theorem run_neqv (w : World) (v v' : Val) : (binOp .neq 49 (vOf v) (vOf v')).run Try.prog w = .ok (.bool (decide (v ≠ v'))) w := by
  have h := run_eqv w v v'
  unfold vOf at *
  rw [run_neq_struct, h]
  simp [Result.andThen]
theorem run_egv (w : World) (op : BinOp) (x y : Operand) (v v' : Val) : (eqGuard op 49 x y (vOf v) (vOf v')).run Try.prog w = .ok () w :=
  run_eqGuard_agg w op _ x y _ _ valT_eg

theorem bcell {W w1 : World} (hb : Below W.heap.size W w1) : (∀ b o, b < W.heap.size → w1.cell? ⟨b, o, none⟩ = W.cell? ⟨b, o, none⟩) ∧ (∀ b o, b < W.heap.size → w1.frozen? ⟨b, o, none⟩ = W.frozen? ⟨b, o, none⟩) :=
  ⟨fun b o h => hb.cell (p := ⟨b, o, none⟩) h, fun b o h => hb.frozen (p := ⟨b, o, none⟩) h⟩

set_option maxHeartbeats 400000 in
theorem vcheck_any (k n : Int) (s : Bs) (w : World) :
    Calls Try.prog 90 #[.agg #[.int .u8 k, .int .i64 n, .string ⟨s.toArray⟩]] w fun e w' => e = .returned (.int .i64 (chk ⟨k, n, s⟩)) ∧ Below w.heap.size w w' := by
  have hq := bareV_eq ⟨k, n, s⟩
  by_cases h1 : 3 < k
  · clear hq
    have hd : decide (3 < k) = true := by simpa using h1
    go_enter Try.func90, Try.ntmps90
    go_wp2_with fail
    go_quiet (fail)
    go_wp2
    go_ret
    exact ⟨by simp [chk, h1], below_drewN ((Below.refl _ w).alloc (Nat.le_refl _) _) _⟩
  · have hd : decide (3 < k) = false := by simpa using h1
    have hn : ∀ w' : World, (binOp .neq 49 (.agg #[.int .u8 k, .int .i64 n, .string ⟨s.toArray⟩]) (vOf (bareV ⟨k, n, s⟩))).run Try.prog w' = .ok (.bool (decide ((⟨k, n, s⟩ : Val) ≠ bareV ⟨k, n, s⟩))) w' := fun w' => run_neqv w' ⟨k, n, s⟩ _
    have hg : ∀ (w' : World) (x y : Operand), (eqGuard .neq 49 x y (.agg #[.int .u8 k, .int .i64 n, .string ⟨s.toArray⟩]) (vOf (bareV ⟨k, n, s⟩))).run Try.prog w' = .ok () w' := fun w' x y => run_egv w' _ x y ⟨k, n, s⟩ _
    have hc := Lib.hid (fun w' => bare_any k n s w')
    have HQ := Lib.hid hq
    clear hq
    generalize vOf (bareV ⟨k, n, s⟩) = bv at *
    by_cases hb : (⟨k, n, s⟩ : Val) = bareV ⟨k, n, s⟩
    · have hb' : decide ((⟨k, n, s⟩ : Val) ≠ bareV ⟨k, n, s⟩) = false := by simpa using hb
      rw [hb'] at hn
      have hfin : chk ⟨k, n, s⟩ = if s.length > 1000 then 3 else 0 := by
        unfold chk
        rw [if_neg]
        intro hx
        rcases HQ.out.2 hx with h | h
        · exact h1 h
        · exact h hb
      have HF := Lib.hid hfin
      clear hb hb' hfin HQ
      go_enter Try.func90, Try.ntmps90
      go_wp2_with fail
      go_region_with (go_at_call 102; refine (hc.out _).mono ?_; rintro e w' ⟨rfl, hb⟩; obtain ⟨hce, hfr⟩ := bcell hb)
      all_goals
        go_wp2
        all_goals
          go_ret
          refine ⟨by first | (rw [HF.out, if_pos (by omega)]; rfl) | (rw [HF.out, if_neg (by omega)]; rfl), ((Below.refl _ w).alloc (Nat.le_refl _) _).drew.trans (hb.mono (B' := w.heap.size) (by simp))⟩
    · have hb' : decide ((⟨k, n, s⟩ : Val) ≠ bareV ⟨k, n, s⟩) = true := by simpa using hb
      rw [hb'] at hn
      have hfin : chk ⟨k, n, s⟩ = 2 := by
        unfold chk
        rw [if_pos (HQ.out.1 (.inr hb))]
      have HF := Lib.hid hfin
      clear hb hb' hfin HQ
      go_enter Try.func90, Try.ntmps90
      go_wp2_with fail
      go_region_with (go_at_call 102; refine (hc.out _).mono ?_; rintro e w' ⟨rfl, hb⟩; obtain ⟨hce, hfr⟩ := bcell hb)
      all_goals
        go_wp2
        all_goals
          go_ret
          exact ⟨by rw [HF.out]; rfl, ((Below.refl _ w).alloc (Nat.le_refl _) _).drew.trans (hb.mono (B' := w.heap.size) (by simp))⟩

theorem ret_int {k : IntKind} {a b : Int} (h : a = b) : Ending.returned (.int k a) = .returned (.int k b) := by rw [h]

end Go.Proofs.Ytljfolepmkcjlaa

/-
  The walks of record.check and counterfoilref09.Check over any row.
-/
namespace Go.Proofs.Ytljfolepmkcjlaa
open Go.RowKit Plain

/-- A row's cells. -/
def rowCells (l : List Val) : List Value := l.flatMap fun v => [.int .u8 v.k, .int .i64 v.n, .string ⟨v.s.toArray⟩]

theorem rowCells_length (l : List Val) : (rowCells l).length = l.length * 3 := by
  induction l with
  | nil => rfl
  | cons v r ih => simp [rowCells] at *; omega
theorem rowCells_append (a b : List Val) : rowCells (a ++ b) = rowCells a ++ rowCells b := by simp [rowCells]
theorem rowCells_get (l : List Val) (k : Nat) (hk : k < l.length) : (rowCells l)[k * 3]? = some (.int .u8 l[k].k) ∧ (rowCells l)[k * 3 + 1]? = some (.int .i64 l[k].n) ∧ (rowCells l)[k * 3 + 2]? = some (.string ⟨l[k].s.toArray⟩) := by
  have e : rowCells l = rowCells (l.take k) ++ (rowCells [l[k]] ++ rowCells (l.drop (k + 1))) := by
    rw [← rowCells_append, ← rowCells_append, List.singleton_append, ← List.drop_eq_getElem_cons hk, List.take_append_drop]
  have hl : (rowCells (l.take k)).length = k * 3 := by rw [rowCells_length, List.length_take]; omega
  rw [e]
  refine ⟨?_, ?_, ?_⟩ <;> rw [List.getElem?_append_right (by omega), hl] <;> simp [rowCells]

/-- the slice '.slice A _ _' is the row l -/
def Row (w : World) (A : Option Addr) (l : List Val) : Prop := Sl w 3 A l.length (rowCells l)

theorem Row.at {w : World} {A : Option Addr} {l : List Val} (h : Row w A l) (h0 : 0 < l.length) : ∃ b off, A = some ⟨b, off, none⟩ ∧ b < w.heap.size ∧ ∀ k (hk : k < l.length), w.cell? ⟨b, off + k * 3, none⟩ = some (.int .u8 l[k].k) ∧ w.cell? ⟨b, off + k * 3 + 1, none⟩ = some (.int .i64 l[k].n) ∧ w.cell? ⟨b, off + k * 3 + 2, none⟩ = some (.string ⟨l[k].s.toArray⟩) := by
  obtain ⟨b, off, e, hc⟩ := h.2 (by omega)
  have key : ∀ k (hk : k < l.length), w.cell? ⟨b, off + k * 3, none⟩ = some (.int .u8 l[k].k) ∧ w.cell? ⟨b, off + k * 3 + 1, none⟩ = some (.int .i64 l[k].n) ∧ w.cell? ⟨b, off + k * 3 + 2, none⟩ = some (.string ⟨l[k].s.toArray⟩) := by
    intro k hk
    obtain ⟨g1, g2, g3⟩ := rowCells_get l k hk
    exact ⟨hc _ _ g1, hc _ _ g2, hc _ _ g3⟩
  exact ⟨b, off, e, World.block_lt_of_cell? w _ (key 0 h0).1, key⟩
theorem Row.below {w w' : World} {A : Option Addr} {l : List Val} {B : Nat} (h : Row w A l) (hb : Below B w w') (hB : w.heap.size ≤ B) : Row w' A l := Sl.below h hb hB

def ChkRel (l : List Val) (k : Nat) : Prop := k ≤ l.length ∧ chkAll l = chkAll (l.drop k)
theorem ChkRel.bad {l : List Val} {k : Nat} (h : ChkRel l k) (hk : k < l.length) (hc : chk l[k] ≠ 0) : chkAll l = chk l[k] := by
  rw [h.2, List.drop_eq_getElem_cons hk]; simp [chkAll, hc]
theorem ChkRel.good {l : List Val} {k : Nat} (h : ChkRel l k) (hk : k < l.length) (hc : chk l[k] = 0) : ChkRel l (k + 1) := by
  refine ⟨hk, ?_⟩
  rw [h.2, List.drop_eq_getElem_cons hk]; simp [chkAll, hc]
theorem ChkRel.fin {l : List Val} {k : Nat} (h : ChkRel l k) (hk : ¬ k < l.length) : chkAll l = 0 := by
  have : k = l.length := by have := h.1; omega
  rw [h.2, this, List.drop_length]; rfl

set_option maxHeartbeats 400000 in
theorem crow_any (A : Option Addr) (c : Nat) (l : List Val) (w : World) (hr : Row w A l) (hl : l.length ≤ 65536) :
    Calls Try.prog 76 #[.slice A l.length c] w fun e w' => e = .returned (.int .i64 (chkRow l)) ∧ Below w.heap.size w w' := by
  by_cases h16 : 16 < l.length
  · have hfin := Lib.hid (show chkRow l = 90 by unfold chkRow; rw [if_pos h16])
    have h16' : (16 : Int) < (l.length : Int) := by omega
    go_enter Try.func76, Try.ntmps76
    go_wp2
    go_ret
    exact ⟨ret_int (by rw [hfin.out]), Below.refl _ _⟩
  · have hfin := Lib.hid (show chkRow l = chkAll l by unfold chkRow; rw [if_neg h16])
    have h16' : (l.length : Int) ≤ 16 := by omega
    have h00 : (0 : Int) ≤ (l.length : Int) := by omega
    have HR := Lib.hid hr
    go_enter Try.func76, Try.ntmps76
    clear hl hr h16
    go_wp2
    go_loopw [11] (fun i wr => ∃ k : Nat, i = .int .i64 (k : Int) ∧ ChkRel l k ∧ Below w.heap.size w wr) (fun i _ => l.length - (intOf i).toNat)
    case atStart => exact ⟨0, rfl, ⟨by omega, rfl⟩, Below.refl _ _⟩
    case round =>
      obtain ⟨k, rfl, hC, hB⟩ := hrel
      by_cases hk : k < l.length
      · obtain ⟨b, off, rfl, hbl, hcell⟩ := HR.out.at (by omega)
        obtain ⟨c0, c1, c2⟩ := hcell k hk
        have d0 : wr.cell? ⟨b, off + k * 3, none⟩ = _ := (hB.cell (p := ⟨b, off + k * 3, none⟩) hbl).trans c0
        have d1 : wr.cell? ⟨b, off + k * 3 + 1, none⟩ = _ := (hB.cell (p := ⟨b, off + k * 3 + 1, none⟩) hbl).trans c1
        have d2 : wr.cell? ⟨b, off + k * 3 + 2, none⟩ = _ := (hB.cell (p := ⟨b, off + k * 3 + 2, none⟩) hbl).trans c2
        clear c0 c1 c2 hcell
        have hkI : (k : Int) < (l.length : Int) := by omega
        have hz := hB.size
        obtain ⟨v, hv⟩ : ∃ v, l[k] = v := ⟨_, rfl⟩
        rw [hv] at d0 d1 d2
        by_cases hc : chk v = 0
        · have hn := Lib.hid (hC.good hk (by rw [hv]; exact hc))
          have hcc : ∀ w', Calls Try.prog 90 #[.agg #[.int .u8 v.k, .int .i64 v.n, .string ⟨v.s.toArray⟩]] w' fun e w'' => e = .returned (.int .i64 0) ∧ Below w'.heap.size w' w'' := fun w' => by
            have := vcheck_any v.k v.n v.s w'
            rwa [show chk ⟨v.k, v.n, v.s⟩ = 0 from hc] at this
          have HC := Lib.hid hcc
          clear hcc hC hv hc
          go_wp2_with (go_at_call 90; refine (HC.out _).mono ?_; rintro e w2 ⟨rfl, hb⟩)
          go_roundw
          case rel => exact ⟨k + 1, by go_num, hn.out, (hB.alloc hz _).trans (hb.mono (by simp; omega))⟩
          case measure => simp [intOf]; omega
        · have hn := Lib.hid (hC.bad hk (by rw [hv]; exact hc))
          have hne : (chk v != 0) = true := by rw [bne_iff_ne]; exact hc
          have HC := Lib.hid (fun w' => vcheck_any v.k v.n v.s w')
          have HV := Lib.hid hv
          have e : (⟨v.k, v.n, v.s⟩ : Val) = v := rfl
          rw [e] at HC
          clear hC hv hc e
          generalize hq : chk v = q at *
          have HQ := Lib.hid hq
          clear hq
          go_wp2_with (go_at_call 90; refine (HC.out _).mono ?_; rintro e w2 ⟨rfl, hb⟩)
          go_ret
          exact ⟨ret_int (by rw [hfin.out, hn.out, HV.out, HQ.out]), (hB.alloc hz _).trans (hb.mono (by simp; omega))⟩
      · have hn := Lib.hid (hC.fin hk)
        have hkI : ¬ (k : Int) < (l.length : Int) := by omega
        clear hC hk
        go_wp2
        go_ret
        exact ⟨ret_int (by rw [hfin.out, hn.out]), hB⟩
end Go.Proofs.Ytljfolepmkcjlaa

/-
  The walk of the reference's Same on two rows.
-/
namespace Go.Proofs.Ytljfolepmkcjlaa
open Go.RowKit Plain

/-- what Same's loop holds to -/
def SameRel (l m : List Val) (k : Nat) : Prop := k ≤ l.length ∧ l.take k = m.take k
theorem SameRel.good {l m : List Val} {k : Nat} (h : SameRel l m k) (hlm : l.length = m.length) (hk : k < l.length) (he : l[k] = m[k]'(by omega)) : SameRel l m (k + 1) := by
  refine ⟨hk, ?_⟩
  rw [List.take_succ_eq_append_getElem hk, List.take_succ_eq_append_getElem (by omega : k < m.length), h.2, he]
theorem SameRel.fin {l m : List Val} {k : Nat} (h : SameRel l m k) (hlm : l.length = m.length) (hk : ¬ k < l.length) : l = m := by
  have := h.2
  rw [List.take_of_length_le (by omega), List.take_of_length_le (by omega)] at this
  exact this

set_option maxHeartbeats 400000 in
theorem same_any (A C : Option Addr) (c1 c2 : Nat) (l m : List Val) (w : World) (hr : Row w A l) (hs : Row w C m) (hl : l.length ≤ 65536) :
    Calls Try.prog 36 #[.slice A l.length c1, .slice C m.length c2] w fun e w' => e = .returned (.bool (decide (l = m))) ∧ Below w.heap.size w w' := by
  by_cases hlm : l.length = m.length
  · have HLM := Lib.hid hlm
    have hne : ((l.length : Int) != (m.length : Int)) = false := by rw [hlm]; simp
    have HR := Lib.hid hr
    have HS := Lib.hid hs
    obtain ⟨bb, hbb⟩ : ∃ b : Bool, decide (l = m) = b := ⟨_, rfl⟩
    rw [hbb]
    have HBB := Lib.hid hbb
    go_enter Try.func36, Try.ntmps36
    clear hr hs hlm hbb
    go_wp2
    go_loopw [5] (fun i wr => ∃ k : Nat, i = .int .i64 (k : Int) ∧ SameRel l m k ∧ Below w.heap.size w wr) (fun i _ => l.length - (intOf i).toNat)
    case atStart => exact ⟨0, rfl, ⟨by omega, rfl⟩, Below.refl _ _⟩
    case round =>
      obtain ⟨k, rfl, hC, hB⟩ := hrel
      by_cases hk : k < l.length
      · have hlm := HLM.out
        obtain ⟨b, off, hA, hbl, hcell⟩ := HR.out.at (by omega)
        obtain ⟨b', off', hA', hbl', hcell'⟩ := HS.out.at (by omega)
        subst hA hA'
        obtain ⟨x0, x1, x2⟩ := hcell k hk
        obtain ⟨y0, y1, y2⟩ := hcell' k (by omega)
        have d0 : wr.cell? ⟨b, off + k * 3, none⟩ = _ := (hB.cell (p := ⟨b, off + k * 3, none⟩) hbl).trans x0
        have d1 : wr.cell? ⟨b, off + k * 3 + 1, none⟩ = _ := (hB.cell (p := ⟨b, off + k * 3 + 1, none⟩) hbl).trans x1
        have d2 : wr.cell? ⟨b, off + k * 3 + 2, none⟩ = _ := (hB.cell (p := ⟨b, off + k * 3 + 2, none⟩) hbl).trans x2
        have g0 : wr.cell? ⟨b', off' + k * 3, none⟩ = _ := (hB.cell (p := ⟨b', off' + k * 3, none⟩) hbl').trans y0
        have g1 : wr.cell? ⟨b', off' + k * 3 + 1, none⟩ = _ := (hB.cell (p := ⟨b', off' + k * 3 + 1, none⟩) hbl').trans y1
        have g2 : wr.cell? ⟨b', off' + k * 3 + 2, none⟩ = _ := (hB.cell (p := ⟨b', off' + k * 3 + 2, none⟩) hbl').trans y2
        clear x0 x1 x2 y0 y1 y2 hcell hcell'
        have hkI : (k : Int) < (l.length : Int) := by omega
        have hkI2 : (k : Int) < (m.length : Int) := by omega
        have hkm : k < m.length := by omega
        have hgood := fun he => hC.good hlm hk he
        have hbad : l[k] ≠ m[k] → bb = false := fun he => by rw [← HBB.out]; exact decide_eq_false (fun e => he (by subst e; rfl))
        obtain ⟨u, hu⟩ : ∃ u, l[k] = u := ⟨_, rfl⟩
        obtain ⟨v, hv⟩ : ∃ v, m[k] = v := ⟨_, rfl⟩
        rw [hu] at d0 d1 d2 hbad
        rw [hv] at g0 g1 g2 hbad
        have hgood2 : u = v → SameRel l m (k + 1) := fun e => hgood (by rw [hu, hv, e])
        have HG := Lib.hid hgood2
        have HB := Lib.hid hbad
        have hn : ∀ w' : World, (binOp .neq 49 (.agg #[.int .u8 u.k, .int .i64 u.n, .string ⟨u.s.toArray⟩]) (.agg #[.int .u8 v.k, .int .i64 v.n, .string ⟨v.s.toArray⟩])).run Try.prog w' = .ok (.bool (decide (u ≠ v))) w' := fun w' => run_neqv w' u v
        clear hgood hgood2 hbad hC hu hv hk hkm hlm hne
        by_cases huv : u = v
        · have HUV := Lib.hid huv
          rw [decide_eq_false (show ¬ u ≠ v from fun h => h huv)] at hn
          clear huv
          go_wp2_with (go_quiet (fail))
          exact ⟨⟨k + 1, by go_num, HG.out HUV.out, ⟨hB.os, hB.tape, hB.output, hB.size, hB.block⟩⟩, by simp [intOf]; omega⟩
        · rw [decide_eq_true (show u ≠ v from huv)] at hn
          obtain rfl := HB.out huv
          clear huv
          go_wp2_with (go_quiet (fail))
          go_ret
          exact ⟨rfl, ⟨hB.os, hB.tape, hB.output, hB.size, hB.block⟩⟩
      · obtain rfl : bb = true := by rw [← HBB.out]; exact decide_eq_true (hC.fin HLM.out hk)
        have hkI : ¬ (k : Int) < (l.length : Int) := by omega
        go_wp2
        go_ret
        exact ⟨rfl, hB⟩
  · have hne : ((l.length : Int) != (m.length : Int)) = true := by rw [bne_iff_ne]; omega
    have hd : decide (l = m) = false := decide_eq_false (fun e => hlm (by rw [e]))
    rw [hd]
    clear hr hs hl hlm hd
    go_enter Try.func36, Try.ntmps36
    go_wp2
    go_ret
    exact ⟨rfl, Below.refl _ _⟩
end Go.Proofs.Ytljfolepmkcjlaa

/-
  The walks of layer 1 (number) and of its reference: what they answer.
-/
namespace Go.Proofs.Ytljfolepmkcjlaa
open Go.RowKit Plain

theorem xor_zero_u64 (a : Int) (h1 : 0 ≤ a) (h2 : a < 18446744073709551616) : bits .xor .u64 a 0 = a := by
  rw [u64_xor a 0 h1 h2 (by omega) (by omega)]
  simp
  omega
theorem nat_xor_ones (a : Nat) (ha : a < 18446744073709551616) : a ^^^ 18446744073709551615 = 18446744073709551615 - a := by
  have h : (BitVec.ofNat 64 a ^^^ BitVec.allOnes 64).toNat = (~~~ (BitVec.ofNat 64 a)).toNat := by rw [BitVec.xor_allOnes]
  rw [BitVec.toNat_xor, BitVec.toNat_not, BitVec.toNat_ofNat, Nat.mod_eq_of_lt (by omega)] at h
  simpa using h
theorem xor_ones_u64 (a : Int) (h1 : 0 ≤ a) (h2 : a < 18446744073709551616) : bits .xor .u64 a 18446744073709551615 = 18446744073709551615 - a := by
  rw [u64_xor a 18446744073709551615 h1 h2 (by omega) (by omega)]
  have := nat_xor_ones a.toNat (by omega)
  rw [show (18446744073709551615 : Int).toNat = 18446744073709551615 from rfl, this]
  omega
theorem and_127 (n : Nat) (h : n < 18446744073709551616) : bits .and .u64 (n : Int) 127 = ((n % 128 : Nat) : Int) := by
  have e := u64_and_nat n 127 h (by omega)
  rw [show n &&& 127 = n % 128 from Nat.and_two_pow_sub_one_eq_mod n 7] at e
  exact e
theorem or_128 (m : Nat) (h : m < 256) : bits .or .u8 (m : Int) 128 = ((m % 128 + 128 : Nat) : Int) := by
  have e := u8_or_nat m 128 h (by omega)
  have h2 : ∀ m : Nat, m < 256 → m ||| 128 = m % 128 + 128 := by decide +kernel
  rw [h2 m h] at e
  exact e

set_option maxHeartbeats 400000 in
theorem fold_any (i : Int) (w : World) (h1 : -9223372036854775808 ≤ i) (h2 : i ≤ 9223372036854775807) :
    Calls Try.prog 103 #[.int .i64 i] w fun e w' => e = .returned (.int .u64 (foldI i : Nat)) ∧ w = w' := by
  go_enter Try.func103, Try.ntmps103
  go_wp2
  go_ret
  refine ⟨ret_int ?_, rfl⟩
  rw [IntKind.wrap_u64, IntKind.wrap_u64, IntKind.wrap_u64]
  unfold foldI
  by_cases h : 0 ≤ i
  · rw [show i / 9223372036854775808 % 18446744073709551616 = 0 by omega, xor_zero_u64 _ (by omega) (by omega), if_pos h]
    omega
  · rw [show i / 9223372036854775808 % 18446744073709551616 = 18446744073709551615 by omega, xor_ones_u64 _ (by omega) (by omega), if_neg h]
    omega

end Go.Proofs.Ytljfolepmkcjlaa

/-
  The walk of number.Put: it answers putN.
-/
namespace Go.Proofs.Ytljfolepmkcjlaa
open Go.RowKit Plain

theorem str_row {w : World} {b t n : Nat} {f : Nat → Value} (h : w.rowIs b t n f) (off cap : Nat) (l : Bs) (hl : off + l.length ≤ n)
    (hf : ∀ j (hj : j < l.length), f (off + j) = .int .u8 (l[j].toNat : Int)) :
    (convert 70 9 (.slice (some ⟨b, off, none⟩) l.length cap)).run Try.prog w = .ok (.string ⟨l.toArray⟩) w := by
  refine run_convert_bytes_back w _ _ 5 ⟨b, off, none⟩ cap l Try.underlying70 Try.underlying5 Try.underlying9 ?_
  intro j hj
  have e : (⟨b, off, none⟩ : Addr).add j = ⟨b, off + j, none⟩ := by unfold Addr.add; split <;> simp_all
  rw [e, h.cell (by omega), hf j hj]

/-- what the loop of put_small holds to: from the place q on the bytes stand that follow m's. -/
def PutRel (n B : Nat) (wr : World) (q m : Nat) : Prop :=
  ∃ (tail : Bs) (f : Nat → Value), q + tail.length = 9 ∧ 0 < tail.length ∧ hiK (digs 10 m) m ++ tail = putN n ∧ m < 128 ^ (q - 1) ∧ q ≤ 8 ∧ wr.rowIs B 94 9 f ∧ ∀ j (hj : j < tail.length), f (q + j) = .int .u8 (tail[j].toNat : Int)

theorem PutRel.start {n B : Nat} {wr : World} {f : Nat → Value} (h : n < 72057594037927936) (hr : wr.rowIs B 94 9 f) (hf : f 8 = .int .u8 ((n % 128 : Nat) : Int)) : PutRel n B wr 8 (n / 128) := by
  refine ⟨[UInt8.ofNat (n % 128)], f, rfl, by simp, ?_, by simp; omega, by omega, hr, ?_⟩
  · unfold putN; rw [if_pos h]
  · intro j hj
    simp only [List.length_singleton] at hj
    obtain rfl : j = 0 := by omega
    rw [hf]
    simp
    omega

theorem PutRel.step {n B : Nat} {wr : World} {q m : Nat} (h : PutRel n B wr (q + 1) m) (hm : 0 < m) (hq : 0 < q) (v : Int) (hv : v = ((m % 128 + 128 : Nat) : Int)) : PutRel n B (wr.setCell ⟨B, q, none⟩ (.int .u8 v)) q (m / 128) := by
  obtain ⟨tail, f, h1, h2, h3, h4, h5, h6, h7⟩ := h
  have hb : m < 18446744073709551616 := by
    have : 128 ^ (q + 1 - 1) ≤ 128 ^ 7 := Nat.pow_le_pow_right (by omega) (by omega)
    omega
  refine ⟨UInt8.ofNat (m % 128 + 128) :: tail, _, by simp; omega, by simp, ?_, ?_, by omega, h6.set q _, ?_⟩
  · rw [← h3, digs_step m (by omega) hb, hiK_succ, List.append_assoc, List.singleton_append]
  · obtain ⟨q', rfl⟩ : ∃ q', q = q' + 1 := ⟨q - 1, by omega⟩
    simp only [Nat.add_sub_cancel] at h4 ⊢
    rw [Nat.pow_succ] at h4
    omega
  · intro j hj
    cases j with
    | zero => simp [hv]; omega
    | succ j =>
      have := h7 j (by simpa using hj)
      simp only [List.getElem_cons_succ]
      rw [if_neg (by omega), ← this]
      congr 1
      omega

theorem PutRel.pos {n B : Nat} {wr : World} {q m : Nat} (h : PutRel n B wr q m) (hm : 0 < m) : 2 ≤ q := by
  obtain ⟨tail, f, h1, h2, h3, h4, h5, h6, h7⟩ := h
  rcases Nat.lt_or_ge q 2 with hq | hq
  · have : q - 1 = 0 := by omega
    rw [this] at h4
    simp at h4
    omega
  · exact hq

theorem PutRel.fin {n B : Nat} {wr : World} {q : Nat} (h : PutRel n B wr q 0) (cap : Nat) :
    (convert 70 9 (.slice (some ⟨B, q, none⟩) (9 - q) cap)).run Try.prog wr = .ok (.string ⟨(putN n).toArray⟩) wr := by
  obtain ⟨tail, f, h1, h2, h3, h4, h5, h6, h7⟩ := h
  rw [digs_zero, hiK_zero, List.nil_append] at h3
  rw [← h3, show 9 - q = tail.length by omega]
  exact str_row h6 q cap tail (by omega) h7

set_option maxHeartbeats 400000 in
theorem put_small (n : Nat) (w : World) (h1 : n < 72057594037927936) :
    Calls Try.prog 54 #[.int .u64 n] w fun e w' => e = .returned (.string ⟨(putN n).toArray⟩) ∧ Below w.heap.size w w' := by
  have hd : decide ((72057594037927936 : Int) ≤ ((n : Nat) : Int)) = false := decide_eq_false (by omega)
  have H1 := Lib.hid h1
  clear h1
  go_enter Try.func54, Try.ntmps54
  go_wp2
  go_loopw [0, 6] (fun a i wr => ∃ q m : Nat, a = .int .u64 (m : Int) ∧ i = .int .i64 (q : Int) ∧ PutRel n w.heap.size wr q m ∧ Below w.heap.size w wr) (fun _ i _ => (intOf i).toNat)
  case atStart =>
    refine ⟨8, n / 128, by go_num, rfl, PutRel.start (f := fun i => if i = 8 then .int .u8 (bits BinOp.and IntKind.u64 (↑n) 127 % 256) else .int .u8 0) H1.out ?_ ?_, (Below.refl _ _).alloc (Nat.le_refl _) _⟩
    · refine World.rowIs_alloc _ _ _ _ ?_
      intro i hi
      simp only [List.size_toArray, List.length_cons, List.length_nil] at hi
      match i, hi with
      | 0, _ => rfl
      | 1, _ => rfl
      | 2, _ => rfl
      | 3, _ => rfl
      | 4, _ => rfl
      | 5, _ => rfl
      | 6, _ => rfl
      | 7, _ => rfl
      | 8, _ => rfl
    · simp only [if_true]
      rw [and_127 n (by have := H1.out; omega)]
      congr 1
      omega
  case round =>
    obtain ⟨q, m, rfl, rfl, hP, hB⟩ := hrel
    by_cases h0 : 0 < m
    · obtain ⟨p, rfl⟩ : ∃ p, q = p + 1 := ⟨q - 1, by have := hP.pos h0; omega⟩
      have hp : 0 < p := by have := hP.pos h0; omega
      obtain ⟨tail, f, g1, g2, g3, g4, g5, g6, g7⟩ := id hP
      have hc := g6.cell (i := p) (by omega)
      have hf := g6.frozen p
      have HP := Lib.hid hP
      have hp9 : p < 9 := by omega
      clear g1 g2 g3 g4 g5 g6 g7 hP
      go_wp2
      go_roundw
      case rel => exact ⟨p, m / 128, by go_num, by go_num, HP.out.step h0 hp _ (by have := or_128 (m % 256) (by omega); rw [show (m % 256) % 128 = m % 128 by omega] at this; rw [← this]; congr 1), hB.setCell (Nat.le_refl _) _⟩
      case measure => simp [intOf]
    · obtain rfl : m = 0 := by omega
      have hc := hP.fin
      have hq : q ≤ 8 := by obtain ⟨tail, f, g1, g2, g3, g4, g5, g6, g7⟩ := hP; exact g5
      clear h0 hP
      have hq' : (q : Int) ≤ 9 := by omega
      have hq9 : ¬ 9 = q := by omega
      go_wp2
      go_ret
      exact ⟨rfl, hB⟩
/-- what the loop of put_big holds to. -/
def PutBig (n B : Nat) (wr : World) (q x : Nat) : Prop :=
  ∃ (tail : Bs) (f : Nat → Value), q + tail.length = 9 ∧ hiK q x ++ tail = putN n ∧ q ≤ 8 ∧ wr.rowIs B 94 9 f ∧ ∀ j (hj : j < tail.length), f (q + j) = .int .u8 (tail[j].toNat : Int)

theorem PutBig.start {n B : Nat} {wr : World} {f : Nat → Value} (h : 72057594037927936 ≤ n) (hr : wr.rowIs B 94 9 f) (hf : f 8 = .int .u8 ((n % 256 : Nat) : Int)) : PutBig n B wr 8 (n / 256) := by
  refine ⟨[UInt8.ofNat (n % 256)], f, rfl, ?_, by omega, hr, ?_⟩
  · unfold putN; rw [if_neg (by omega)]
  · intro j hj
    simp only [List.length_singleton] at hj
    obtain rfl : j = 0 := by omega
    rw [hf]
    simp

theorem PutBig.step {n B : Nat} {wr : World} {q m : Nat} (h : PutBig n B wr (q + 1) m) (v : Int) (hv : v = ((m % 128 + 128 : Nat) : Int)) : PutBig n B (wr.setCell ⟨B, q, none⟩ (.int .u8 v)) q (m / 128) := by
  obtain ⟨tail, f, h1, h3, h5, h6, h7⟩ := h
  refine ⟨UInt8.ofNat (m % 128 + 128) :: tail, _, by simp; omega, ?_, by omega, h6.set q _, ?_⟩
  · rw [← h3, hiK_succ, List.append_assoc, List.singleton_append]
  · intro j hj
    cases j with
    | zero => simp [hv]; omega
    | succ j =>
      have := h7 j (by simpa using hj)
      simp only [List.getElem_cons_succ]
      rw [if_neg (by omega), ← this]
      congr 1
      omega

theorem PutBig.fin {n B : Nat} {wr : World} {x : Nat} (h : PutBig n B wr 0 x) (cap : Nat) :
    (convert 70 9 (.slice (some ⟨B, 0, none⟩) 9 cap)).run Try.prog wr = .ok (.string ⟨(putN n).toArray⟩) wr := by
  obtain ⟨tail, f, h1, h3, h5, h6, h7⟩ := h
  rw [hiK_zero, List.nil_append] at h3
  have e : tail.length = 9 := by omega
  have h := str_row h6 0 cap tail (by omega) h7
  rw [e] at h
  rw [← h3]
  exact h

set_option maxHeartbeats 400000 in
theorem put_big (n : Nat) (w : World) (h1 : 72057594037927936 ≤ n) (h2 : n < 18446744073709551616) :
    Calls Try.prog 54 #[.int .u64 n] w fun e w' => e = .returned (.string ⟨(putN n).toArray⟩) ∧ Below w.heap.size w w' := by
  have hd : decide ((72057594037927936 : Int) ≤ ((n : Nat) : Int)) = true := decide_eq_true (by omega)
  have H1 := Lib.hid h1
  clear h1 h2
  go_enter Try.func54, Try.ntmps54
  go_wp2
  go_loopw [4, 5] (fun i a wr => ∃ q m : Nat, a = .int .u64 (m : Int) ∧ i = .int .i64 ((q : Int) - 1) ∧ PutBig n w.heap.size wr q m ∧ Below w.heap.size w wr) (fun i _ _ => (intOf i + 1).toNat)
  case atStart =>
    refine ⟨8, n / 256, by go_num, rfl, PutBig.start (f := fun i => if i = 8 then .int .u8 ((n : Int) % 256) else .int .u8 0) H1.out ?_ ?_, (Below.refl _ _).alloc (Nat.le_refl _) _⟩
    · refine World.rowIs_alloc _ _ _ _ ?_
      intro i hi
      simp only [List.size_toArray, List.length_cons, List.length_nil] at hi
      match i, hi with
      | 0, _ => rfl
      | 1, _ => rfl
      | 2, _ => rfl
      | 3, _ => rfl
      | 4, _ => rfl
      | 5, _ => rfl
      | 6, _ => rfl
      | 7, _ => rfl
      | 8, _ => rfl
    · simp only [if_true]
      congr 1
  case round =>
    obtain ⟨q, m, rfl, rfl, hP, hB⟩ := hrel
    rcases q with _ | p
    · have hc := hP.fin
      clear hP
      go_wp2
      go_ret
      exact ⟨rfl, hB⟩
    · obtain ⟨tail, f, g1, g3, g5, g6, g7⟩ := id hP
      have hc := g6.cell (i := p) (by omega)
      have hf := g6.frozen p
      have HP := Lib.hid hP
      have hp9 : p < 9 := by omega
      clear g1 g3 g5 g6 g7 hP
      go_wp2
      go_roundw
      case rel => exact ⟨p, m / 128, by go_num, by go_num, HP.out.step _ (by have := or_128 (m % 256) (by omega); rw [show (m % 256) % 128 = m % 128 by omega] at this; rw [← this]; congr 1), hB.setCell (Nat.le_refl _) _⟩
      case measure => simp [intOf]

/-- number.Put -/
theorem put_any (n : Nat) (w : World) (h : n < 18446744073709551616) :
    Calls Try.prog 54 #[.int .u64 n] w fun e w' => e = .returned (.string ⟨(putN n).toArray⟩) ∧ Below w.heap.size w w' := by
  rcases Nat.lt_or_ge n 72057594037927936 with h1 | h1
  · exact put_small n w h1
  · exact put_big n w h1 h
end Go.Proofs.Ytljfolepmkcjlaa

/-
  The walks of layer 1's reference: digits, Put.
-/
namespace Go.Proofs.Ytljfolepmkcjlaa
open Go.RowKit Plain
set_option maxRecDepth 100000

/-- what the loop of digits holds to: k digits are there, m is left. -/
def DigRel (n least B : Nat) (wr : World) (k m : Nat) (v : Value) : Prop :=
  m = n / 128 ^ k ∧ k ≤ max (digs 10 n) least ∧ wr.ownsRow B 5 1 v k (Lib.byteCells (dgL k n))

theorem DigRel.more {n least B : Nat} {wr : World} {k m : Nat} {v : Value} (h : DigRel n least B wr k m v) (hn : n < 18446744073709551616) (hm : 0 < m ∨ k < least) : k < max (digs 10 n) least := by
  obtain ⟨h1, h2, h3⟩ := h
  rcases hm with hm | hm
  · have := digs_le_iff n k hn
    rw [← h1] at this
    rcases Nat.lt_or_ge k (digs 10 n) with hl | hl
    · omega
    · have := this.1 hl; omega
  · omega
theorem DigRel.fin {n least B : Nat} {wr : World} {k : Nat} {v : Value} (h : DigRel n least B wr k 0 v) (hn : n < 18446744073709551616) (hk : ¬ k < least) : k = max (digs 10 n) least := by
  obtain ⟨h1, h2, h3⟩ := h
  have := (digs_le_iff n k hn).2 h1.symm
  omega
theorem DigRel.next {n least B : Nat} {wr w' : World} {k m : Nat} {v v' : Value} (h : DigRel n least B wr k m v) (hk : k < max (digs 10 n) least)
    (ho : w'.ownsRow B 5 1 v' (1 + k) (Lib.byteCells ([UInt8.ofNat (m % 128)] ++ dgL k n))) : DigRel n least B w' (k + 1) (m / 128) v' := by
  obtain ⟨h1, h2, h3⟩ := h
  refine ⟨by rw [h1, Nat.div_div_eq_div_mul, Nat.pow_succ], by omega, ?_⟩
  rw [dgL_front, ← h1, Nat.add_comm k 1]
  exact ho

/-- what both loops of Put hold to: of the K bytes l the first k have their high bits. -/
def HighRel (l : Bs) (B g cap : Nat) (wr : World) (k : Nat) : Prop :=
  wr.ownsRow B 5 1 (.slice (some ⟨g, 0, none⟩) l.length cap) l.length (Lib.byteCells (upTo k l))

theorem HighRel.cell {l : Bs} {B g cap : Nat} {wr : World} {k : Nat} (h : HighRel l B g cap wr k) (hk : k < l.length) : wr.cell? ⟨g, k, none⟩ = some (.int .u8 (l[k].toNat : Int)) := by
  have := World.ownsRow.cellAt h k (by omega)
  rw [this]
  have h2 := upTo_get k l hk
  simp [Lib.byteCells, h2]
theorem HighRel.step {l : Bs} {B g cap : Nat} {wr : World} {k : Nat} (h : HighRel l B g cap wr k) (hk : k < l.length) (hs : l[k].toNat < 128) (v : Int) (hv : v = (l[k].toNat : Int) + 128) : HighRel l B g cap (wr.setCell ⟨g, k, none⟩ (.int .u8 v)) (k + 1) := by
  have h2 := (World.ownsRow.stored h k (.int .u8 v)).1
  have e : v = ((l[k] + 128).toNat : Int) := by rw [hv, UInt8.toNat_add]; simp; omega
  rw [e, cells_bytes_set, upTo_step k l hk] at h2
  rw [e]
  exact h2

end Go.Proofs.Ytljfolepmkcjlaa

/-
  strings.Builder: what the writing methods and String do, with the frame told block by block (so that two builders can stand side by side).
-/
namespace Go.Proofs.Ytljfolepmkcjlaa
open Go.RowKit
set_option maxRecDepth 100000

/-- The block of a builder's buffer. -/
def bufOf (w : World) (b : Nat) : Option Nat :=
  match w.heap[b]? with
  | some (.cells c _ _) => (c.getD 1 undef).ownBlock
  | _ => none

/-- A builder in block b (its rows from B on) that holds the bytes l. -/
def Bd (b : Nat) (l : List UInt8) (B : Nat) (w : World) : Prop :=
  B ≤ b ∧ ∃ p v, (p = .pointer none ∨ p = .pointer (some ⟨b, 0, none⟩)) ∧ w.heap[b]? = some (.cells #[p, v] 72 (0, 0)) ∧ w.ownsRow B 5 1 v l.length (Lib.byteCells l) ∧ (l = [] → v = .slice none 0 0)

/-- Nothing but block b and its buffer's row has turned. -/
structure Touch (b : Nat) (w w' : World) : Prop where
  os : w'.os = w.os
  tape : w'.tape = w.tape
  output : w'.output = w.output
  size : w.heap.size ≤ w'.heap.size
  block : ∀ k, k < w.heap.size → k ≠ b → some k ≠ bufOf w b → w'.heap[k]? = w.heap[k]?

theorem bufOf_eq {w : World} {b : Nat} {p v : Value} {T : TypeId} {fr : Nat × Nat} (h : w.heap[b]? = some (.cells #[p, v] T fr)) : bufOf w b = v.ownBlock := by
  unfold bufOf; rw [h]; rfl

theorem heap_lt {w : World} {k : Nat} {o : Obj} (h : w.heap[k]? = some o) : k < w.heap.size := by
  rcases Nat.lt_or_ge k w.heap.size with h' | h'
  · exact h'
  · rw [Array.getElem?_eq_none h'] at h; cases h

theorem Bd.lt {b : Nat} {l : List UInt8} {B : Nat} {w : World} (h : Bd b l B w) : b < w.heap.size := by
  obtain ⟨_, p, v, _, hb, _, _⟩ := h
  exact heap_lt hb
theorem Bd.buf_lt {b : Nat} {l : List UInt8} {B : Nat} {w : World} (h : Bd b l B w) : ∀ g, bufOf w b = some g → B ≤ g ∧ g < w.heap.size ∧ g ≠ b := by
  obtain ⟨_, p, v, _, hb, ho, _⟩ := h
  intro g hg
  rw [bufOf_eq hb] at hg
  obtain ⟨h1, h2⟩ := ho.lt g hg
  refine ⟨h1, h2, ?_⟩
  rintro rfl
  exact Lib.ownBlock_ne ho hb (by decide) hg

/-- a builder stands where its block and its buffer's stand -/
theorem Bd.keep {b : Nat} {l : List UInt8} {B : Nat} {w w' : World} (h : Bd b l B w) (h1 : w'.heap[b]? = w.heap[b]?) (h2 : ∀ g, bufOf w b = some g → w'.heap[g]? = w.heap[g]?) : Bd b l B w' ∧ bufOf w' b = bufOf w b := by
  obtain ⟨hB, p, v, hp, hb, ho, hnil⟩ := h
  have e := bufOf_eq hb
  have hb' : w'.heap[b]? = some (.cells #[p, v] 72 (0, 0)) := h1.trans hb
  refine ⟨⟨hB, p, v, hp, hb', ?_, hnil⟩, by rw [bufOf_eq hb', e]⟩
  refine ⟨ho.1, ?_⟩
  rcases ho.2 with hn | ⟨g, cap, cur, rfl, a1, a2, a3⟩
  · exact .inl hn
  · exact .inr ⟨g, cap, cur, rfl, a1, (h2 g (by rw [e]; rfl)).trans a2, a3⟩
theorem Bd.below {b : Nat} {l : List UInt8} {B : Nat} {w w' : World} (h : Bd b l B w) (hb : Below w.heap.size w w') : Bd b l B w' ∧ bufOf w' b = bufOf w b :=
  h.keep (hb.block b h.lt) (fun g hg => hb.block g (h.buf_lt g hg).2.1)
theorem Bd.other {b c : Nat} {l : List UInt8} {B : Nat} {w w' : World} (h : Bd b l B w) (hne : b ≠ c) (hd : ∀ g, bufOf w b = some g → bufOf w c ≠ some g ∧ g ≠ c) (hc : ∀ g, bufOf w c = some g → g ≠ b) (ht : Touch c w w') : Bd b l B w' ∧ bufOf w' b = bufOf w b :=
  h.keep (ht.block b h.lt hne (fun e => hc b e.symm rfl)) (fun g hg => ht.block g (h.buf_lt g hg).2.1 (hd g hg).2 (fun e => (hd g hg).1 e.symm))

theorem Touch.below {b B : Nat} {l : List UInt8} {w0 w w' : World} (ht : Touch b w w') (h : Bd b l B w) (hb : Below B w0 w) : Below B w0 w' :=
  hb.trans ⟨ht.os, ht.tape, ht.output, ht.size, fun k hk => by
    have hlt : k < w.heap.size := by have := h.lt; have := h.1; omega
    refine ht.block k hlt (by have := h.1; omega) ?_
    intro e
    have := (h.buf_lt k e.symm).1
    omega⟩

/-- a fresh one -/
theorem Bd.new (w : World) (B : Nat) (hB : B ≤ w.heap.size) : Bd w.heap.size [] B (w.alloc (.cells #[.pointer none, .slice none 0 0] 72)) :=
  ⟨hB, _, _, .inl rfl, heap_alloc_new w _, World.ownsRow_nil _ _ _ _, fun _ => rfl⟩
theorem bufOf_new (w : World) : bufOf (w.alloc (.cells #[.pointer none, .slice none 0 0] 72)) w.heap.size = none := by
  rw [bufOf_eq (heap_alloc_new w _)]; rfl

theorem bd_size : (Try.prog.info? 72).map (fun i => decide (i.size ≠ 0)) = some true := by kernel_rfl
theorem bd_lies : liesAt Try.prog Try.prog.depth 72 (2 / Try.prog.cellsOf 72) 0 72 1 = true := by kernel_rfl

set_option maxHeartbeats 1000000 in
theorem copyCheck_used (b : Nat) (w : World) (h0 : w.cell? ⟨b, 0, none⟩ = some (.pointer (some ⟨b, 0, none⟩))) :
    Calls Try.prog 75 #[.pointer (some ⟨b, 0, none⟩)] w fun e w' => e = .returned (.tuple #[]) ∧ w' = w := by
  obtain ⟨j, hj, _⟩ := Option.map_eq_some_iff.1 bd_size
  go_enter Try.func75, Try.ntmps75
  go_wp2
  rw [Lib.run_neq_ptr_same w _ Try.underlying69 hj]
  go_wp2
  go_end0
  exact ⟨rfl, rfl⟩

set_option maxHeartbeats 1000000 in
theorem copyCheck_fresh (b : Nat) (w : World) (h0 : w.cell? ⟨b, 0, none⟩ = some (.pointer none)) (hsh : w.shape? b = some (72, 2)) (hfz : w.frozen? ⟨b, 0, none⟩ = false) :
    Calls Try.prog 75 #[.pointer (some ⟨b, 0, none⟩)] w fun e w' => e = .returned (.tuple #[]) ∧ w' = w.setCell ⟨b, 0, none⟩ (.pointer (some ⟨b, 0, none⟩)) := by
  obtain ⟨j, hj, hjs⟩ := Option.map_eq_some_iff.1 bd_size
  go_enter Try.func75, Try.ntmps75
  go_wp2
  rw [Lib.run_to_unsafe w ⟨b, 0, none⟩ Try.underlying69 Try.underlying103 hj (by simpa using hjs) hsh (Nat.zero_lt_succ 1)]
  simp only [Result.andThen]
  rw [Oper.upon_value]
  go_wp2
  rw [run_callFunc_extern Try.func89 (by kernel_rfl) (by kernel_rfl) (by kernel_rfl) (e := Extern.AbiNoEscape.same) (by kernel_rfl)]
  rw [Lib.run_noEscape]
  simp only [Result.andThen]
  rw [Oper.upon_value]
  go_wp2
  rw [Lib.run_from_unsafe w ⟨b, 0, none⟩ Try.underlying103 Try.underlying69 hj hsh bd_lies]
  simp only [Result.andThen]
  rw [Oper.upon_value]
  go_wp2
  go_end0
  exact ⟨rfl, rfl⟩

/-- copyCheck, whatever the builder was: behind it block b holds its own address and the buffer that it held. -/
theorem copyCheck_any (b : Nat) (l : List UInt8) (B : Nat) (w : World) (h : Bd b l B w) :
    Calls Try.prog 75 #[.pointer (some ⟨b, 0, none⟩)] w fun e w' => e = .returned (.tuple #[]) ∧ ∃ v, w'.heap[b]? = some (.cells #[.pointer (some ⟨b, 0, none⟩), v] 72 (0, 0)) ∧
      w'.ownsRow B 5 1 v l.length (Lib.byteCells l) ∧ bufOf w b = v.ownBlock ∧ w'.heap.size = w.heap.size ∧ Touch b w w' ∧ (l = [] → v = .slice none 0 0) := by
  obtain ⟨hB, p, v, hp, hb, ho, hnil⟩ := h
  have hlt := heap_lt hb
  rcases hp with rfl | rfl
  · refine (copyCheck_fresh b w (by rw [Lib.cell_of_heap hb]; rfl) (by simp [World.shape?, hb]) (Lib.frozen_of_heap hb 0)).mono ?_
    rintro e w' ⟨rfl, rfl⟩
    have hu := Lib.BuilderAt.used (T := 72) (e := 5) (B := B) (b := b) (p := .pointer none) (bs := Lib.byteCells l) ⟨hB, v, hb, by rw [Lib.byteCells_length]; exact ho, Lib.ownBlock_ne ho hb (by decide)⟩ (.pointer (some ⟨b, 0, none⟩))
    obtain ⟨_, v', h1, h2, _⟩ := hu
    rw [Lib.byteCells_length] at h2
    have hh : (w.setCell ⟨b, 0, none⟩ (.pointer (some ⟨b, 0, none⟩))).heap[b]? = some (.cells #[.pointer (some ⟨b, 0, none⟩), v] 72 (0, 0)) := by
      simp [World.setCell, Array.getElem?_modify, hb]
    have hv : v' = v := by
      rw [hh] at h1
      simp at h1
      exact h1.symm
    subst hv
    exact ⟨rfl, v', hh, h2, bufOf_eq hb, by simp [World.setCell], ⟨rfl, rfl, rfl, by simp [World.setCell], fun k _ hk _ => Below.heap_setCell _ _ _ _ hk⟩, hnil⟩
  · refine (copyCheck_used b w (by rw [Lib.cell_of_heap hb]; rfl)).mono ?_
    rintro e w' ⟨rfl, rfl⟩
    exact ⟨rfl, v, hb, ho, bufOf_eq hb, rfl, ⟨rfl, rfl, rfl, Nat.le_refl _, fun _ _ _ _ => rfl⟩, hnil⟩

/-- behind an append of a buffer and its store -/
theorem bd_put {b B : Nat} {l' : List UInt8} {w w1 w2 : World} {v v' : Value} (hB : B ≤ b) (_hlt : b < w.heap.size) (_hw1 : w.heap.size ≤ w1.heap.size) (hk1 : ∀ k, k < w.heap.size → k ≠ b → some k ≠ v.ownBlock → w2.heap[k]? = w.heap[k]?)
    (hos : w2.os = w.os) (hta : w2.tape = w.tape) (hou : w2.output = w.output) (hsz : w1.heap.size ≤ w2.heap.size)
    (hb2 : w2.heap[b]? = some (.cells #[.pointer (some ⟨b, 0, none⟩), v] 72 (0, 0))) (hown : w2.ownsRow B 5 1 v' l'.length (Lib.byteCells l'))
    (hbuf : bufOf w b = v.ownBlock) (hnil : l' = [] → v' = .slice none 0 0) (hv' : v'.ownBlock = v.ownBlock ∨ ∃ g, v'.ownBlock = some g ∧ w.heap.size ≤ g) :
    Bd b l' B (w2.setCell ⟨b, 1, none⟩ v') ∧ Touch b w (w2.setCell ⟨b, 1, none⟩ v') ∧ (bufOf (w2.setCell ⟨b, 1, none⟩ v') b = bufOf w b ∨ ∃ g, bufOf (w2.setCell ⟨b, 1, none⟩ v') b = some g ∧ w.heap.size ≤ g) := by
  have hu := Lib.BuilderAt.put (T := 72) (e := 5) (v' := v') hB hb2 (bs' := Lib.byteCells l') (by rw [Lib.byteCells_length]; exact hown) (by decide)
  obtain ⟨_, v'', h1, h2, _⟩ := hu
  rw [Lib.byteCells_length] at h2
  have hh : (w2.setCell ⟨b, 1, none⟩ v').heap[b]? = some (.cells #[.pointer (some ⟨b, 0, none⟩), v'] 72 (0, 0)) := by
    simp [World.setCell, Array.getElem?_modify, hb2]
  have hv : v'' = v' := by
    rw [hh] at h1
    simp at h1
    exact h1.symm
  subst hv
  refine ⟨⟨hB, _, v'', .inr rfl, hh, h2, hnil⟩, ⟨hos, hta, hou, by simp [World.setCell]; omega, fun k hk hne hn => ?_⟩, ?_⟩
  · rw [Below.heap_setCell _ _ _ _ hne]
    exact hk1 k hk hne (by rw [← hbuf]; exact hn)
  · rw [bufOf_eq hh, hbuf]
    exact hv'

set_option maxHeartbeats 2000000 in
theorem wbyte_any (b : Nat) (l : List UInt8) (B : Nat) (c : UInt8) (ci : Int) (hci : ci = (c.toNat : Int)) (w : World) (h : Bd b l B w) (hlen : l.length + 1 ≤ 140737488355328) :
    Calls Try.prog 86 #[.pointer (some ⟨b, 0, none⟩), .int .u8 ci] w fun e w' => e = .returned .nilIface ∧ Bd b (l ++ [c]) B w' ∧ Touch b w w' ∧ (bufOf w' b = bufOf w b ∨ ∃ g, bufOf w' b = some g ∧ w.heap.size ≤ g) := by
  have hlt0 := h.lt
  have hB := h.1
  have HC := Lib.hid (copyCheck_any b l B w h)
  have HCI := Lib.hid hci
  clear hci h
  go_enter Try.func86, Try.ntmps86
  go_wp2_with (go_at_call 75; refine HC.out.mono ?_)
  rintro e w1 ⟨rfl, v, hbk, hown, hbuf, hsz, ht, hnil⟩
  have HN := Lib.hid hnil
  clear hnil
  have c0 : w1.cell? ⟨b, 0, none⟩ = some (.pointer (some ⟨b, 0, none⟩)) := by rw [Lib.cell_of_heap hbk]; rfl
  have c1 : w1.cell? ⟨b, 1, none⟩ = some v := by rw [Lib.cell_of_heap hbk]; rfl
  have HT := Lib.hid ht
  have HB := Lib.hid hbuf
  have HS := Lib.hid hsz
  clear ht hbuf hsz HC
  go_wp2_with (at_builtin; refine app_u8 _ rfl _ _ rfl B v l.length l rfl (hown.alloc _) _ _ _ [c] rfl (Sl.lit_u8 _ _ _ HCI.out) (by simpa using hlen) (by have := HS.out; simp; omega) ?_)
  intro v' w2 hown' hgrow hown3
  have hltb : b < w1.heap.size := heap_lt hbk
  have hne := Lib.ownBlock_ne hown hbk (by decide)
  have hb2 : w2.heap[b]? = some (.cells #[.pointer (some ⟨b, 0, none⟩), v] 72 (0, 0)) := by
    rw [hgrow.block b (by simp; omega) (fun e => hne e.symm), Lib.alloc_old w1 _ b hltb]
    exact hbk
  have d0 : w2.cell? ⟨b, 0, none⟩ = some (.pointer (some ⟨b, 0, none⟩)) := by rw [Lib.cell_of_heap hb2]; rfl
  have d1 : w2.cell? ⟨b, 1, none⟩ = some v := by rw [Lib.cell_of_heap hb2]; rfl
  have f1 : w2.frozen? ⟨b, 1, none⟩ = false := Lib.frozen_of_heap hb2 1
  have hput := bd_put (l' := l ++ [c]) hB hlt0 (Nat.le_of_eq HS.out.symm) (fun k hk hkb hkv => by
      rw [hgrow.block k (by have := HS.out; simp; omega) hkv, Lib.alloc_old w1 _ k (by have := HS.out; omega)]
      exact HT.out.block k hk hkb (by rw [HB.out]; exact hkv))
    (hgrow.os.trans HT.out.os) (hgrow.tape.trans HT.out.tape) (hgrow.output.trans HT.out.output) (by have := hgrow.size; simp at this; omega) hb2
    (by simpa using hown') HB.out (fun e => by simp at e) (by
      rcases hown3 with e | e
      · exact .inl e
      · exact .inr ⟨_, e, by have := HS.out; simp; omega⟩)
  have HP := Lib.hid hput
  obtain ⟨g, cap, rfl, _⟩ := own_form hown' (by omega)
  clear hput hgrow hown' hown3 hown hne
  go_wp2
  go_ret
  exact ⟨rfl, HP.out⟩

/-- append(b, s...) at a string: the library's law, and where the new slice lies. -/
theorem run_app_str (w : World) (base : Nat) (v : Value) (l : List UInt8) (s : List UInt8) (hown : w.ownsRow base 5 1 v l.length (Lib.byteCells l))
    (hbytes : l.length + s.length ≤ 140737488355328) (hbase : base ≤ w.heap.size) (ty : TypeId) :
    ∃ v' w', (Builtin.append_ #[70, 9] ty #[v, .string ⟨s.toArray⟩]).run Try.prog w = .ok v' w' ∧ w'.ownsRow base 5 1 v' (l ++ s).length (Lib.byteCells (l ++ s)) ∧ w.grownBy w' v.ownBlock ∧
      (v'.ownBlock = v.ownBlock ∨ v'.ownBlock = some w.heap.size) ∧ (v = .slice none 0 0 → s = [] → v' = .slice none 0 0) := by
  obtain ⟨i0, hi, hz0, hz1, hz2⟩ := info_parts info_u8
  have hs : (⟨s.toArray⟩ : ByteArray).size = s.length := rfl
  obtain ⟨v', w', h1, h2, h3, h4⟩ := Lib.run_append_own_string (P := Try.prog) w base 70 9 ty 5 i0 Try.underlying70 Try.underlying9 hi hz0 hz1 hz2 v l.length _ hown ⟨s.toArray⟩ (by rw [hs]; unfold maxLen; omega) (by rw [hs]; omega) hbase
  refine ⟨v', w', h1, ?_, h3, ?_, fun e1 e2 => h4.2 ⟨e1, by rw [hs, e2]; rfl⟩⟩
  · rw [hs, Lib.strCells_eq, ← cells_bytes_append, ← List.length_append] at h2
    exact h2
  · rcases hown.2 with ⟨rfl, hl⟩ | ⟨g, cap, cur, rfl, hbg, hg, hnc, hcm, hcs, htake⟩
    · by_cases hm : s.length = 0
      · left
        have hf := Lib.run_firstCells_string (P := Try.prog) w 1 ⟨s.toArray⟩
        rw [hs, hm] at hf
        simp [Builtin.append_, run_underlying Try.underlying70, run_underlying Try.underlying9, sizeOf, typeInfo, hi, hz1, Builtin.lenOf, hs, hm, hf] at h1
        rw [← h1.1]
      · right
        have hr := run_append_nil_string (P := Try.prog) w 70 9 ty 5 i0 (.int .u8 0) Try.underlying70 Try.underlying9 hi hz0 ⟨s.toArray⟩ (by rw [hs]; omega) (by rw [hs]; omega) (by rw [hz2, hs]; omega)
        rw [hr] at h1
        injection h1 with h1 _
        rw [← h1]; rfl
    · by_cases hroom : l.length + s.length ≤ cap
      · left
        have hr := Lib.run_append_room_string (P := Try.prog) w 70 9 ty 5 i0 Try.underlying70 Try.underlying9 hi hz1 g l.length cap cur hg ⟨s.toArray⟩ hroom (by rw [hs]; omega)
        rw [hr] at h1
        injection h1 with h1 _
        rw [← h1]; rfl
      · right
        have hr := Lib.run_append_grow_string (P := Try.prog) w 70 9 ty 5 i0 (.int .u8 0) Try.underlying70 Try.underlying9 hi hz0 ⟨g, 0, none⟩ l.length cap (Lib.byteCells l) (by rw [hz1]; simpa using hown.1) (hown.cells (g := g) rfl) ⟨s.toArray⟩ (by rw [hs]; omega) (by rw [hs]; omega) (by rw [hz2, hs]; exact growslice_fits (by omega) (by omega))
        rw [hr] at h1
        injection h1 with h1 _
        rw [← h1]; rfl

theorem app_str (w : World) {ops : Array Oper} {rest : List Oper} {o : Oper} {a : Act} {Q : Exit → Act → World → Prop} (hgd : o.guard = none) (sl x : Operand)
    (ho : o.op = .call { callee := .builtin .append, args := #[sl, x], argTypes := #[70, 9] })
    (base : Nat) (v : Value) (l s : List UInt8) (hs : a.eval sl = v) (hown : w.ownsRow base 5 1 v l.length (Lib.byteCells l)) (hx : a.eval x = .string ⟨s.toArray⟩)
    (hbytes : l.length + s.length ≤ 140737488355328) (hbase : base ≤ w.heap.size)
    (h : ∀ v' w', w'.ownsRow base 5 1 v' (l ++ s).length (Lib.byteCells (l ++ s)) → w.grownBy w' v.ownBlock → (v'.ownBlock = v.ownBlock ∨ v'.ownBlock = some w.heap.size) → (v = .slice none 0 0 → s = [] → v' = .slice none 0 0) → wpList Try.prog ops Q rest (a.put o.dst v') w') :
    wpList Try.prog ops Q (o :: rest) a w := by
  refine wpList_plain hgd fun K hK => ?_
  obtain ⟨v', w', hr, h2, h3, h4, h5⟩ := run_app_str w base v l s hown hbytes hbase o.type
  unfold Oper.wp execOp
  simp only [ho, resolve, invoke, builtin, Sem.run_bind, Sem.run_pure, Result.andThen_ok, List.map_toArray, List.map_cons, List.map_nil, hs, hx, hr]
  exact hK _ _ (h v' w' h2 h3 h4 h5)

set_option maxHeartbeats 2000000 in
theorem wstr_any (b : Nat) (l : List UInt8) (B : Nat) (s : List UInt8) (w : World) (h : Bd b l B w) (hlen : l.length + s.length ≤ 140737488355328) :
    Calls Try.prog 53 #[.pointer (some ⟨b, 0, none⟩), .string ⟨s.toArray⟩] w fun e w' => e = .returned (.tuple #[.int .i64 s.length, .nilIface]) ∧ Bd b (l ++ s) B w' ∧ Touch b w w' ∧ (bufOf w' b = bufOf w b ∨ ∃ g, bufOf w' b = some g ∧ w.heap.size ≤ g) := by
  have hlt0 := h.lt
  have hB := h.1
  have HC := Lib.hid (copyCheck_any b l B w h)
  clear h
  go_enter Try.func53, Try.ntmps53
  go_wp2_with (go_at_call 75; refine HC.out.mono ?_)
  rintro e w1 ⟨rfl, v, hbk, hown, hbuf, hsz, ht, hnil⟩
  have HN := Lib.hid hnil
  clear hnil
  have c0 : w1.cell? ⟨b, 0, none⟩ = some (.pointer (some ⟨b, 0, none⟩)) := by rw [Lib.cell_of_heap hbk]; rfl
  have c1 : w1.cell? ⟨b, 1, none⟩ = some v := by rw [Lib.cell_of_heap hbk]; rfl
  have HT := Lib.hid ht
  have HB := Lib.hid hbuf
  have HS := Lib.hid hsz
  clear ht hbuf hsz HC
  go_wp2_with (at_builtin; refine app_str _ rfl _ _ rfl B v l s rfl hown rfl hlen (by have := HS.out; omega) ?_)
  intro v' w2 hown' hgrow hown3 hown4
  have hltb : b < w1.heap.size := heap_lt hbk
  have hne := Lib.ownBlock_ne hown hbk (by decide)
  have hb2 : w2.heap[b]? = some (.cells #[.pointer (some ⟨b, 0, none⟩), v] 72 (0, 0)) := by
    rw [hgrow.block b hltb (fun e => hne e.symm)]
    exact hbk
  have d0 : w2.cell? ⟨b, 0, none⟩ = some (.pointer (some ⟨b, 0, none⟩)) := by rw [Lib.cell_of_heap hb2]; rfl
  have d1 : w2.cell? ⟨b, 1, none⟩ = some v := by rw [Lib.cell_of_heap hb2]; rfl
  have f1 : w2.frozen? ⟨b, 1, none⟩ = false := Lib.frozen_of_heap hb2 1
  have hput := bd_put (l' := l ++ s) hB hlt0 (Nat.le_of_eq HS.out.symm) (fun k hk hkb hkv => by
      rw [hgrow.block k (by have := HS.out; omega) hkv]
      exact HT.out.block k hk hkb (by rw [HB.out]; exact hkv))
    (hgrow.os.trans HT.out.os) (hgrow.tape.trans HT.out.tape) (hgrow.output.trans HT.out.output) hgrow.size hb2
    (by simpa using hown') HB.out (fun e => by obtain ⟨e1, e2⟩ := List.append_eq_nil_iff.1 e; exact hown4 (HN.out e1) e2) (by
      rcases hown3 with e | e
      · exact .inl e
      · exact .inr ⟨_, e, by have := HS.out; omega⟩)
  have HP := Lib.hid hput
  obtain ⟨A, c, rfl, _⟩ := Sl.own hown'
  clear hput hgrow hown' hown3 hown4 hown hne
  go_wp2
  go_ret2
  exact ⟨rfl, HP.out⟩

/-- String at whatever the builder holds. (Behind it its buffer may be frozen: the builder is not told on.) -/
theorem Bd.is {b : Nat} {l : List UInt8} {B : Nat} {w : World} (h : Bd b l B w) : ∃ p v, w.heap[b]? = some (.cells #[p, v] 72 (0, 0)) ∧ w.ownsRow B 5 1 v l.length (Lib.byteCells l) ∧ (l = [] → v = .slice none 0 0) := by
  obtain ⟨_, p, v, _, h1, h2, h3⟩ := h
  exact ⟨p, v, h1, h2, h3⟩

theorem cellsByte : Try.prog.cellsOf 5 = 1 := by kernel_rfl

/-- what String leaves: new blocks, a draw, marks on its own buffer. -/
def Marked (b : Nat) (w w' : World) : Prop := w'.os = w.os ∧ w'.tape = w.tape ∧ w'.output = w.output ∧ w.heap.size ≤ w'.heap.size ∧ ∀ k, k < w.heap.size → some k ≠ bufOf w b → w'.heap[k]? = w.heap[k]?

set_option maxHeartbeats 2000000 in
theorem bstr_some (b : Nat) (x : UInt8) (r : List UInt8) (B : Nat) (w : World) (h : Bd b (x :: r) B w) :
    Calls Try.prog 56 #[.pointer (some ⟨b, 0, none⟩)] w fun e w' => e = .returned (.string ⟨(x :: r).toArray⟩) ∧ Marked b w w' := by
  have hbl := h.buf_lt
  obtain ⟨p, v, hbk, hown, _⟩ := h.is
  have hbuf := bufOf_eq hbk
  obtain ⟨g, cap, cur, rfl, hbg, hg, hnc, hcm, hcs, htake⟩ : ∃ g cap cur, v = .slice (some ⟨g, 0, none⟩) (x :: r).length cap ∧ B ≤ g ∧ w.heap[g]? = some (.cells cur 5 (0, 0)) ∧ (x :: r).length ≤ cap ∧ cap ≤ maxLen ∧ cur.size = cap * 1 ∧ cur.toList.take ((x :: r).length * 1) = Lib.byteCells (x :: r) := by
    rcases hown.2 with ⟨_, hz⟩ | ⟨g, cap, cur, hv, rr⟩
    · simp at hz
    · exact ⟨g, cap, cur, hv, rr⟩
  have c1 : w.drew.cell? ⟨b, 1, none⟩ = some (.slice (some ⟨g, 0, none⟩) (x :: r).length cap) := by
    have : w.drew.heap[b]? = some (.cells #[p, .slice (some ⟨g, 0, none⟩) (x :: r).length cap] 72 (0, 0)) := hbk
    rw [Lib.cell_of_heap this]; rfl
  have hSD : (Builtin.unsafeSliceData_ #[70] 97 #[.slice (some ⟨g, 0, none⟩) (x :: r).length cap]).run Try.prog w.drew = .ok (.pointer (some ⟨g, 0, none⟩)) w.drew :=
    Lib.run_unsafeSliceData_row _ _ _ _ _ _ (by simp at hnc; omega)
  have hUS : (Builtin.unsafeString_ #[97, 3] 9 #[.pointer (some ⟨g, 0, none⟩), .int .i64 (x :: r).length]).run Try.prog w.drew = .ok (.string ⟨(x :: r).toArray⟩) (w.drew.freeze ⟨g, 0, none⟩ (x :: r).length) := by
    refine Lib.run_unsafeString_row w.drew _ _ _ 5 Try.underlying97 cellsByte g cur.size (by have hg' : w.drew.heap[g]? = some (.cells cur 5 (0, 0)) := hg; simp [World.shape?, hg']) (x :: r) (by simp) (by omega) (by unfold maxLen at hcm; omega) ?_
    intro j y hy
    exact hown.cells (g := g) rfl j (.int .u8 y.toNat) (by simp only [Lib.byteCells, List.getElem?_map, hy]; rfl)
  have hM : Marked b w (w.drew.freeze ⟨g, 0, none⟩ (x :: r).length) := by
    refine ⟨by unfold World.freeze; split <;> rfl, by unfold World.freeze; split <;> rfl, by unfold World.freeze; split <;> rfl, by unfold World.freeze; split <;> simp, fun k hk hne => ?_⟩
    unfold World.freeze
    split
    · rfl
    · simp only [Array.getElem?_modify]
      rw [if_neg]
      · rfl
      · intro e
        apply hne
        rw [hbuf, ← e]
        rfl
  have HM := Lib.hid hM
  generalize hL : (x :: r) = l at *
  clear hL hM hbuf hbl hown hg hnc hcm hcs htake hbk
  go_enter Try.func56, Try.ntmps56
  go_wp2
  go_region
  all_goals (go_wp2; go_ret; exact ⟨rfl, HM.out⟩)

set_option maxHeartbeats 2000000 in
theorem bstr_none (b : Nat) (B : Nat) (w : World) (h : Bd b [] B w) :
    Calls Try.prog 56 #[.pointer (some ⟨b, 0, none⟩)] w fun e w' => e = .returned (.string ⟨#[]⟩) ∧ Marked b w w' := by
  obtain ⟨p, v, hbk, hown, hnil⟩ := h.is
  obtain rfl := hnil rfl
  have hUS : ∀ W : World, (Builtin.unsafeString_ #[97, 3] 9 #[.pointer none, .int .i64 0]).run Try.prog W = .ok (.string .empty) W := fun W => Lib.run_unsafeString_none W _ _ _ none
  have c1 : w.drew.cell? ⟨b, 1, none⟩ = some (.slice none 0 0) := by
    have : w.drew.heap[b]? = some (.cells #[p, .slice none 0 0] 72 (0, 0)) := hbk
    rw [Lib.cell_of_heap this]; rfl
  have hSD : (Builtin.unsafeSliceData_ #[70] 97 #[.slice none 0 0]).run Try.prog w.drew = .ok (.pointer none) w.drew := rfl
  clear hbk hown hnil h
  go_enter Try.func56, Try.ntmps56
  go_wp2
  go_region
  all_goals (go_wp2; go_ret; exact ⟨rfl, rfl, rfl, rfl, Nat.le_refl _, fun _ _ _ => rfl⟩)

/-- (*strings.Builder).String -/
theorem bstr_any (b : Nat) (l : List UInt8) (B : Nat) (w : World) (h : Bd b l B w) :
    Calls Try.prog 56 #[.pointer (some ⟨b, 0, none⟩)] w fun e w' => e = .returned (.string ⟨l.toArray⟩) ∧ Marked b w w' := by
  cases l with
  | nil => exact bstr_none b B w h
  | cons x r => exact bstr_some b x r B w h

theorem Marked.below {b B : Nat} {l : List UInt8} {w0 w w' : World} (hm : Marked b w w') (h : Bd b l B w) (hb : Below B w0 w) : Below B w0 w' :=
  hb.trans ⟨hm.1, hm.2.1, hm.2.2.1, hm.2.2.2.1, fun k hk => by
    have hlt : k < w.heap.size := by have := h.lt; have := h.1; omega
    refine hm.2.2.2.2 k hlt ?_
    intro e
    have := (h.buf_lt k e.symm).1
    omega⟩
theorem Bd.marked {b c : Nat} {l : List UInt8} {B : Nat} {w w' : World} (h : Bd b l B w) (hd : ∀ g, bufOf w b = some g → bufOf w c ≠ some g) (hc : ∀ g, bufOf w c = some g → g ≠ b) (hm : Marked c w w') : Bd b l B w' ∧ bufOf w' b = bufOf w b :=
  h.keep (hm.2.2.2.2 b h.lt (fun e => hc b e.symm rfl)) (fun g hg => hm.2.2.2.2 g (h.buf_lt g hg).2.1 (fun e => hd g hg e.symm))
end Go.Proofs.Ytljfolepmkcjlaa

/-
  More plain facts about records' parts.
-/
namespace Go.Proofs.Ytljfolepmkcjlaa.Plain

theorem tagsL_take (l : List Val) (k : Nat) (hk : k < l.length) : tagsL (l.take (k + 1)) = tagsL (l.take k) ++ putN (tagN l[k]) := by
  rw [List.take_succ_eq_append_getElem hk]; simp only [tagsL, List.flatMap_append, List.flatMap_cons, List.flatMap_nil, List.append_nil]
theorem bodiesL_take (l : List Val) (k : Nat) (hk : k < l.length) : bodiesL (l.take (k + 1)) = bodiesL (l.take k) ++ bodyL l[k] := by
  rw [List.take_succ_eq_append_getElem hk]; simp only [bodiesL, List.flatMap_append, List.flatMap_cons, List.flatMap_nil, List.append_nil]
theorem tagsL_take_len (l : List Val) (k : Nat) (h16 : l.length ≤ 16) : (tagsL (l.take k)).length ≤ 144 := by
  have := tagsL_length_le (l.take k)
  rw [List.length_take] at this
  omega
theorem bodiesL_take_len (l : List Val) (k : Nat) (h16 : l.length ≤ 16) (h : ∀ v ∈ l, chk v = 0) : (bodiesL (l.take k)).length ≤ 16000 := by
  have := bodiesL_length_le (l.take k) (fun v hv => h v (List.mem_of_mem_take hv))
  rw [List.length_take] at this
  omega
end Go.Proofs.Ytljfolepmkcjlaa.Plain

/-
  The walks of record.tag, body, all and of the reference's tag, All: a row's record.
-/
namespace Go.Proofs.Ytljfolepmkcjlaa
open Go.RowKit Plain
set_option maxRecDepth 100000

theorem Bd.buf_ne {b c B C : Nat} {l m : List UInt8} {w : World} (h : Bd b l B w) (k : Bd c m C w) : ∀ g, bufOf w b = some g → g ≠ c := by
  obtain ⟨p, v, hb, ho, _⟩ := h.is
  obtain ⟨q, u, hc, _, _⟩ := k.is
  intro g hg
  rw [bufOf_eq hb] at hg
  rintro rfl
  exact Lib.ownBlock_ne ho hc (by decide) hg

theorem bytes_append (a b : List UInt8) : (⟨a.toArray⟩ : ByteArray) ++ ⟨b.toArray⟩ = ⟨(a ++ b).toArray⟩ := by
  apply ByteArray.ext
  rw [ByteArray.data_append]
  simp

/-- two builders side by side -/
def TwoB (b c B : Nat) (l m : List UInt8) (w : World) : Prop := Bd b l B w ∧ Bd c m B w ∧ b ≠ c ∧ ∀ g, bufOf w b = some g → bufOf w c ≠ some g
theorem TwoB.first {b c B : Nat} {l l' m : List UInt8} {w w' : World} (h : TwoB b c B l m w) (h1 : Bd b l' B w') (ht : Touch b w w') (hb : bufOf w' b = bufOf w b ∨ ∃ g, bufOf w' b = some g ∧ w.heap.size ≤ g) : TwoB b c B l' m w' := by
  obtain ⟨a1, a2, a3, a4⟩ := h
  obtain ⟨k1, k2⟩ := a2.other a3.symm (fun g hg => ⟨fun e => a4 g e hg, a2.buf_ne a1 g hg⟩) (a1.buf_ne a2) ht
  refine ⟨h1, k1, a3, fun g hg => ?_⟩
  rw [k2]
  rcases hb with hb | ⟨g', hb, hge⟩
  · rw [hb] at hg; exact a4 g hg
  · intro e
    have := (a2.buf_lt g e).2.1
    rw [hb] at hg
    injection hg with hg
    omega
theorem TwoB.second {b c B : Nat} {l m m' : List UInt8} {w w' : World} (h : TwoB b c B l m w) (h1 : Bd c m' B w') (ht : Touch c w w') (hb : bufOf w' c = bufOf w c ∨ ∃ g, bufOf w' c = some g ∧ w.heap.size ≤ g) : TwoB b c B l m' w' := by
  obtain ⟨a1, a2, a3, a4⟩ := h
  obtain ⟨k1, k2⟩ := a1.other a3 (fun g hg => ⟨a4 g hg, a1.buf_ne a2 g hg⟩) (a2.buf_ne a1) ht
  refine ⟨k1, h1, a3, fun g hg => ?_⟩
  rw [k2] at hg
  rcases hb with hb | ⟨g', hb, hge⟩
  · rw [hb]; exact a4 g hg
  · intro e
    have := (a1.buf_lt g hg).2.1
    rw [hb] at e
    injection e with e
    omega
theorem TwoB.below {b c B : Nat} {l m : List UInt8} {w w' : World} (h : TwoB b c B l m w) (hb : Below w.heap.size w w') : TwoB b c B l m w' := by
  obtain ⟨a1, a2, a3, a4⟩ := h
  obtain ⟨k1, e1⟩ := a1.below hb
  obtain ⟨k2, e2⟩ := a2.below hb
  exact ⟨k1, k2, a3, fun g hg => by rw [e2]; rw [e1] at hg; exact a4 g hg⟩

set_option maxHeartbeats 400000 in
theorem tag_any (v : Val) (w : World) (h : chk v = 0) :
    Calls Try.prog 91 #[.agg #[.int .u8 v.k, .int .i64 v.n, .string ⟨v.s.toArray⟩]] w fun e w' => e = .returned (.int .u64 (tagN v : Nat)) ∧ Below w.heap.size w w' := by
  obtain ⟨k, n, s⟩ := v
  have hl := (chk_zero h).2.2.2
  simp only at hl
  clear h
  have hl0 : (0 : Int) ≤ (s.length : Int) := by omega
  have hl1 : (s.length : Int) ≤ 1000 := by omega
  clear hl
  by_cases h1 : k = 1
  · subst h1
    go_enter Try.func91, Try.ntmps91
    go_wp2
    go_ret
    exact ⟨by simp [tagN], (Below.refl _ w).alloc (Nat.le_refl _) _⟩
  · by_cases h2 : k = 2
    · subst h2
      go_enter Try.func91, Try.ntmps91
      go_wp2
      go_ret
      exact ⟨by simp [tagN], (Below.refl _ w).alloc (Nat.le_refl _) _⟩
    · by_cases h3 : k = 3
      · subst h3
        go_enter Try.func91, Try.ntmps91
        go_wp2
        go_ret
        exact ⟨by simp [tagN], (Below.refl _ w).alloc (Nat.le_refl _) _⟩
      · have e1 : (k == 1) = false := by simpa using h1
        have e2 : (k == 2) = false := by simpa using h2
        have e3 : (k == 3) = false := by simpa using h3
        go_enter Try.func91, Try.ntmps91
        go_wp2
        go_ret
        exact ⟨by simp [tagN, h1, h2, h3], (Below.refl _ w).alloc (Nat.le_refl _) _⟩

set_option maxHeartbeats 400000 in
theorem body_any (v : Val) (w : World) (hw : v.wf) :
    Calls Try.prog 92 #[.agg #[.int .u8 v.k, .int .i64 v.n, .string ⟨v.s.toArray⟩]] w fun e w' => e = .returned (.string ⟨(bodyL v).toArray⟩) ∧ Below w.heap.size w w' := by
  obtain ⟨k, n, s⟩ := v
  obtain ⟨_, _, w1, w2⟩ := hw
  simp only at w1 w2
  by_cases h1 : k = 1
  · subst h1
    have HF := Lib.hid (fun w' => fold_any n w' w1 w2)
    have HP := Lib.hid (fun w' => put_any (foldI n) w' (foldI_lt n w1 w2))
    clear w1 w2
    go_enter Try.func92, Try.ntmps92
    go_wp2_with (first
      | (go_at_call 103; refine (HF.out _).mono ?_; rintro e w' ⟨rfl, rfl⟩)
      | (go_at_call 54; refine (HP.out _).mono ?_; rintro e w' ⟨rfl, hb⟩))
    go_ret
    exact ⟨by simp [bodyL], ((Below.refl _ w).alloc (Nat.le_refl _) _).trans (hb.mono (B' := w.heap.size) (by simp))⟩
  · have e1 : (k == 1) = false := by simpa using h1
    clear w1 w2
    go_enter Try.func92, Try.ntmps92
    go_wp2
    go_ret
    exact ⟨by simp [bodyL, h1], (Below.refl _ w).alloc (Nat.le_refl _) _⟩

set_option maxHeartbeats 1000000 in
theorem all_any (A : Option Addr) (c : Nat) (l : List Val) (w : World) (hr : Row w A l) (h16 : l.length ≤ 16) (hk : ∀ v ∈ l, chk v = 0) (hw : ∀ v ∈ l, v.wf) :
    Calls Try.prog 77 #[.slice A l.length c] w fun e w' => e = .returned (.string ⟨(allL l).toArray⟩) ∧ Below w.heap.size w w' := by
  have hb1 := Bd.new w w.heap.size (Nat.le_refl _)
  have hb2 := Bd.new (w.alloc (.cells #[.pointer none, .slice none 0 0] 72)) w.heap.size (by simp)
  obtain ⟨hb1', hbf⟩ := hb1.below ((Below.refl _ _).alloc (Nat.le_refl _) (.cells #[.pointer none, .slice none 0 0] 72))
  have hsz : (w.alloc (.cells #[.pointer none, .slice none 0 0] 72)).heap.size = w.heap.size + 1 := by simp
  rw [hsz] at hb2
  have hT : TwoB w.heap.size (w.heap.size + 1) w.heap.size [] [] ((w.alloc (.cells #[.pointer none, .slice none 0 0] 72)).alloc (.cells #[.pointer none, .slice none 0 0] 72)) :=
    ⟨hb1', hb2, by omega, fun g hg => by rw [hbf, bufOf_new] at hg; cases hg⟩
  have HT := Lib.hid hT
  have HW0 := Lib.hid (wbyte_any w.heap.size [] w.heap.size (UInt8.ofNat l.length) ((l.length : Int)) (by rw [UInt8.toNat_ofNat']; omega) _ hT.1 (by simp))
  have h16' : (l.length : Int) ≤ 16 := by omega
  have h00 : (0 : Int) ≤ (l.length : Int) := by omega
  have HR := Lib.hid hr
  have HK := Lib.hid hk
  have HWF := Lib.hid hw
  have H16 := Lib.hid h16
  clear hb1 hb2 hb1' hbf hsz hT hr hk hw h16
  go_enter Try.func77, Try.ntmps77
  go_wp2_with (go_at_call 86; refine HW0.out.mono ?_; rintro e w1 ⟨rfl, h1, h2, h3⟩)
  have hT1 := HT.out.first h1 h2 h3
  have hB1 : Below w.heap.size w w1 := h2.below HT.out.1 (((Below.refl _ w).alloc (Nat.le_refl _) _).alloc (by simp) _)
  clear h1 h2 h3 HW0
  go_loopw [13] (fun i wr => ∃ k : Nat, i = .int .i64 (k : Int) ∧ k ≤ l.length ∧ TwoB w.heap.size (w.heap.size + 1) w.heap.size (UInt8.ofNat l.length :: tagsL (l.take k)) (bodiesL (l.take k)) wr ∧ Below w.heap.size w wr) (fun i _ => l.length - (intOf i).toNat)
  case atStart => exact ⟨0, rfl, by omega, hT1, hB1⟩
  case round =>
    obtain ⟨k, rfl, hkl, hTT, hB⟩ := hrel
    clear hT1 hB1
    have hz := hB.size
    by_cases hk : k < l.length
    · obtain ⟨b, off, rfl, hbl, hcell⟩ := HR.out.at (by omega)
      obtain ⟨c0, c1, c2⟩ := hcell k hk
      have d0 : wr.cell? ⟨b, off + k * 3, none⟩ = _ := (hB.cell (p := ⟨b, off + k * 3, none⟩) hbl).trans c0
      have d1 : wr.cell? ⟨b, off + k * 3 + 1, none⟩ = _ := (hB.cell (p := ⟨b, off + k * 3 + 1, none⟩) hbl).trans c1
      have d2 : wr.cell? ⟨b, off + k * 3 + 2, none⟩ = _ := (hB.cell (p := ⟨b, off + k * 3 + 2, none⟩) hbl).trans c2
      clear c0 c1 c2 hcell
      have hkI : (k : Int) < (l.length : Int) := by omega
      have hv0 := HK.out l[k] (List.getElem_mem hk)
      have hwf := HWF.out l[k] (List.getElem_mem hk)
      have ht := Lib.hid (tagsL_take l k hk)
      have hbd := Lib.hid (bodiesL_take l k hk)
      have htl := tagsL_take_len l k H16.out
      have hbl2 := bodiesL_take_len l k H16.out HK.out
      have hpl := putN_length_le (tagN l[k])
      have hyl := bodyL_length_le l[k] hv0
      generalize l[k] = v at *
      have HTag := Lib.hid (fun w' => tag_any v w' hv0)
      have HPut := Lib.hid (fun w' => put_any (tagN v) w' (tagN_lt v hv0))
      have HBody := Lib.hid (fun w' => body_any v w' hwf)
      have HTT := Lib.hid hTT
      have HL := Lib.hid (And.intro htl (And.intro hbl2 (And.intro hpl hyl)))
      clear hv0 hwf htl hbl2 hpl hyl hTT
      go_wp2_with (first
        | (go_at_call 91; refine (HTag.out _).mono ?_; rintro e w2 ⟨rfl, g1⟩)
        | (go_at_call 54; refine (HPut.out _).mono ?_; rintro e w3 ⟨rfl, g2⟩))
      have hs1 : wr.heap.size + 1 ≤ w2.heap.size := by have := g1.size; simpa using this
      have g12 : Below (wr.heap.size + 1) (wr.alloc (.cells #[.int .u8 v.k, .int .i64 v.n, .string ⟨v.s.toArray⟩] 49)) w3 := (g1.mono (by simp)).trans (g2.mono hs1)
      have hb3 : Below wr.heap.size wr w3 := ((Below.refl _ wr).alloc (Nat.le_refl _) _).trans (g12.mono (by omega))
      have hT3 := HTT.out.below hb3
      have hbuf3 := (HTT.out.1.below hb3).2
      have hx3 : w3.heap[wr.heap.size]? = some (.cells #[.int .u8 v.k, .int .i64 v.n, .string ⟨v.s.toArray⟩] 49 (0, 0)) := (g12.block _ (by omega)).trans (heap_alloc_new wr _)
      have hlt3 : wr.heap.size < w3.heap.size := by have := g12.size; simp at this; omega
      have hbl1 := HTT.out.1.buf_lt
      have hne1 : wr.heap.size ≠ w.heap.size := by have := HTT.out.1.lt; omega
      clear g1 g2 g12 d0 d1 d2
      refine (wstr_any w.heap.size _ w.heap.size _ _ hT3.1 (by have := HL.out; simp; omega)).mono ?_
      rintro e w4 ⟨rfl, k1, k2, k3⟩
      have hT4 := hT3.first k1 k2 k3
      have hx4 : w4.heap[wr.heap.size]? = some (.cells #[.int .u8 v.k, .int .i64 v.n, .string ⟨v.s.toArray⟩] 49 (0, 0)) := (k2.block _ hlt3 hne1 (fun e => by
        rw [hbuf3] at e
        have := (hbl1 _ e.symm).2.1
        omega)).trans hx3
      have hb4 : Below w.heap.size w w4 := k2.below hT3.1 (hB.trans (hb3.mono hz))
      have f0 : w4.cell? ⟨wr.heap.size, 0, none⟩ = some (.int .u8 v.k) := by rw [Lib.cell_of_heap hx4]; rfl
      have f1 : w4.cell? ⟨wr.heap.size, 1, none⟩ = some (.int .i64 v.n) := by rw [Lib.cell_of_heap hx4]; rfl
      have f2 : w4.cell? ⟨wr.heap.size, 2, none⟩ = some (.string ⟨v.s.toArray⟩) := by rw [Lib.cell_of_heap hx4]; rfl
      have HT4 := Lib.hid hT4
      have HB4 := Lib.hid hb4
      clear hT3 hbuf3 hx3 hlt3 hbl1 hne1 k1 k2 k3 hx4 hT4 hb4 hb3
      go_wp2_with (go_at_call 92; refine (HBody.out _).mono ?_; rintro e w5 ⟨rfl, g3⟩)
      have hT5 := HT4.out.below g3
      have hb5 : Below w.heap.size w w5 := HB4.out.trans (g3.mono HB4.out.size)
      refine (wstr_any (w.heap.size + 1) _ w.heap.size _ _ hT5.2.1 (by have := HL.out; simp; omega)).mono ?_
      rintro e w6 ⟨rfl, k1, k2, k3⟩
      have hT6 := hT5.second k1 k2 k3
      have hb6 : Below w.heap.size w w6 := k2.below hT5.2.1 hb5
      have HT6 := Lib.hid hT6
      have HB6 := Lib.hid hb6
      clear hT5 hb5 g3 k1 k2 k3 hT6 hb6 f0 f1 f2
      go_wp2
      go_roundw
      case rel => exact ⟨k + 1, by go_num, by omega, by rw [ht.out, hbd.out]; exact HT6.out, HB6.out⟩
      case measure => simp [intOf]; omega
    · have hkI : ¬ (k : Int) < (l.length : Int) := by omega
      have hkn : k = l.length := by omega
      have HKN := Lib.hid hkn
      have hT := hTT
      rw [hkn, List.take_length] at hT
      have HT := Lib.hid hT
      clear hTT hkn hk hT
      go_wp2_with fail
      refine (bstr_any _ _ _ _ HT.out.1).mono ?_
      rintro e w2 ⟨rfl, m1⟩
      obtain ⟨a1, a2, a3, a4⟩ := HT.out
      obtain ⟨k1, k2⟩ := a2.marked (fun g hg e => a4 g e hg) (a1.buf_ne a2) m1
      have hb2 := m1.below a1 hB
      have HK1 := Lib.hid k1
      have HB2 := Lib.hid hb2
      clear a1 a2 a3 a4 k1 k2 hb2 m1
      go_wp2_with fail
      refine (bstr_any _ _ _ _ HK1.out).mono ?_
      rintro e w3 ⟨rfl, m2⟩
      have hb3 := m2.below HK1.out HB2.out
      clear m2
      have ht1 : (tagsL l).length ≤ 144 := by have := tagsL_take_len l l.length H16.out; rwa [List.take_length] at this
      have ht2 : (bodiesL l).length ≤ 16000 := by have := bodiesL_take_len l l.length H16.out HK.out; rwa [List.take_length] at this
      go_wp2
      go_ret
      refine ⟨?_, hb3⟩
      simp only [allL, ← List.cons_append]
      rw [← bytes_append]
      rfl
end Go.Proofs.Ytljfolepmkcjlaa

/-
  The walk of the reference's All: a row's record.
-/
namespace Go.Proofs.Ytljfolepmkcjlaa
open Go.RowKit Plain
set_option maxRecDepth 100000

end Go.Proofs.Ytljfolepmkcjlaa

/-
  The walk of record.Put over any row.
-/
namespace Go.Proofs.Ytljfolepmkcjlaa
open Go.RowKit Plain
set_option maxRecDepth 100000

theorem ret_si {a : List UInt8} {b : Int} {p : List UInt8 × Int} (h : p = (a, b)) : Ending.returned (.tuple #[.string ⟨a.toArray⟩, .int .i64 b]) = .returned (.tuple #[.string ⟨p.1.toArray⟩, .int .i64 p.2]) := by rw [h]

theorem putRow_bad {l : List Val} (h : chkRow l ≠ 0) : putRow l = ([], chkRow l) := by unfold putRow; rw [if_pos h]
theorem putRow_long {l : List Val} (h : chkRow l = 0) (h2 : 4000 < (allL l).length) : putRow l = ([], 3) := by unfold putRow; rw [if_neg (by simp [h]), if_pos h2]
theorem putRow_good {l : List Val} (h : chkRow l = 0) (h2 : ¬ 4000 < (allL l).length) : putRow l = (allL l, 0) := by unfold putRow; rw [if_neg (by simp [h]), if_neg (by simpa using h2)]

set_option maxHeartbeats 400000 in
theorem put09_any (A : Option Addr) (c : Nat) (l : List Val) (w : World) (hr : Row w A l) (hl : l.length ≤ 65536) (hw : ∀ v ∈ l, v.wf) :
    Calls Try.prog 55 #[.slice A l.length c] w fun e w' => e = .returned (.tuple #[.string ⟨(putRow l).1.toArray⟩, .int .i64 (putRow l).2]) ∧ Below w.heap.size w w' := by
  have HC := Lib.hid (crow_any A c l w hr hl)
  by_cases h0 : chkRow l = 0
  · obtain ⟨g1, g2⟩ := chkRow_zero h0
    have HA := Lib.hid (fun (w' : World) (hr' : Row w' A l) => all_any A c l w' hr' g1 g2 hw)
    have hall : (allL l).length ≤ 16200 := by
      have := tagsL_length_le l; have := bodiesL_length_le l g2
      simp [allL]; omega
    have HR := Lib.hid hr
    have h0' := h0
    rw [h0] at HC
    have H0 := Lib.hid h0
    clear h0 h0' g1 g2 hw hr hl
    by_cases h4 : 4000 < (allL l).length
    · have HF := Lib.hid (putRow_long H0.out h4)
      generalize allL l = q at *
      have h4' : (4000 : Int) < (q.length : Int) := by omega
      have hq : (q.length : Int) ≤ 16200 := by omega
      clear h4 hall
      go_enter Try.func55, Try.ntmps55
      go_wp2_with (first
        | (go_at_call 76; refine HC.out.mono ?_; rintro e w1 ⟨rfl, b1⟩)
        | (go_at_call 77; refine (HA.out _ (HR.out.below b1 (Nat.le_refl _))).mono ?_; rintro e w2 ⟨rfl, b2⟩))
      go_ret2
      exact ⟨ret_si HF.out, b1.trans (b2.mono b1.size)⟩
    · have HF := Lib.hid (putRow_good H0.out h4)
      generalize allL l = q at *
      have h4' : (q.length : Int) ≤ 4000 := by omega
      have hq0 : (0 : Int) ≤ (q.length : Int) := by omega
      clear h4 hall
      go_enter Try.func55, Try.ntmps55
      go_wp2_with (first
        | (go_at_call 76; refine HC.out.mono ?_; rintro e w1 ⟨rfl, b1⟩)
        | (go_at_call 77; refine (HA.out _ (HR.out.below b1 (Nat.le_refl _))).mono ?_; rintro e w2 ⟨rfl, b2⟩))
      go_ret2
      exact ⟨ret_si HF.out, b1.trans (b2.mono b1.size)⟩
  · have HF := Lib.hid (putRow_bad h0)
    have hne : (chkRow l != 0) = true := by rw [bne_iff_ne]; exact h0
    generalize chkRow l = q at *
    clear h0 hr hl hw
    go_enter Try.func55, Try.ntmps55
    go_wp2_with (go_at_call 76; refine HC.out.mono ?_; rintro e w1 ⟨rfl, b1⟩)
    go_ret2
    exact ⟨ret_si HF.out, b1⟩

end Go.Proofs.Ytljfolepmkcjlaa

/-
  The record layer's contracts for the abstract machine, out of the walks.
-/
namespace Go.Proofs.Ytljfolepmkcjlaa
open Go.RowKit Plain Am

def vD (v : Val) : DV := .agg [.int .u8 v.k, .int .i64 v.n, .str v.s]
def toVal : DV → Val
  | .agg [.int _ k, .int _ n, .str s] => ⟨k, n, s⟩
  | _ => ⟨0, 0, []⟩
def wfB (v : Val) : Bool := decide (0 ≤ v.k) && decide (v.k ≤ 255) && decide (-9223372036854775808 ≤ v.n) && decide (v.n ≤ 9223372036854775807)
def isVal : DV → Bool
  | .agg [.int .u8 k, .int .i64 n, .str s] => wfB ⟨k, n, s⟩
  | _ => false
def toRow (els : List DV) : List Val := els.map toVal
def okRow (els : List DV) : Bool := decide (els.length ≤ 65536) && els.all isVal

theorem wfB_iff (v : Val) : wfB v = true ↔ v.wf := by simp [wfB, Val.wf, and_assoc]

theorem isVal_spec {x : DV} (h : isVal x = true) : x = vD (toVal x) ∧ (toVal x).wf := by
  unfold isVal at h
  split at h
  · exact ⟨rfl, (wfB_iff _).1 h⟩
  · cases h
theorem toVal_vD (v : Val) : toVal (vD v) = v := rfl
theorem toRow_map (l : List Val) : toRow (l.map vD) = l := by
  induction l with
  | nil => rfl
  | cons v r ih =>
    simp only [toRow, List.map_cons, toVal_vD, List.cons.injEq, true_and]
    exact ih
theorem okRow_map {l : List Val} (hl : l.length ≤ 65536) (hw : ∀ v ∈ l, v.wf) : okRow (l.map vD) = true := by
  simp only [okRow, Bool.and_eq_true, decide_eq_true_eq, List.length_map, List.all_eq_true, List.mem_map]
  refine ⟨hl, ?_⟩
  rintro x ⟨v, hv, rfl⟩
  exact (wfB_iff v).2 (hw v hv)
theorem map_toRow : ∀ {els : List DV}, (∀ x ∈ els, isVal x = true) → els = (toRow els).map vD ∧ ∀ v ∈ toRow els, v.wf
  | [], _ => by simp [toRow]
  | x :: r, h => by
    obtain ⟨g1, g2⟩ := map_toRow (els := r) (fun y hy => h y (by simp [hy]))
    obtain ⟨e1, e2⟩ := isVal_spec (h x (by simp))
    refine ⟨?_, ?_⟩
    · show x :: r = vD (toVal x) :: (toRow r).map vD
      rw [← e1, ← g1]
    · intro v hv
      have : v ∈ toVal x :: toRow r := hv
      rcases List.mem_cons.1 this with rfl | hv
      · exact e2
      · exact g2 v hv
theorem okRow_spec {els : List DV} (h : okRow els = true) : els = (toRow els).map vD ∧ (∀ v ∈ toRow els, v.wf) ∧ (toRow els).length ≤ 65536 := by
  simp only [okRow, Bool.and_eq_true, decide_eq_true_eq, List.all_eq_true] at h
  obtain ⟨g1, g2⟩ := map_toRow h.2
  exact ⟨g1, g2, by simpa [toRow] using h.1⟩

theorem vD_cells (v : Val) : (vD v).cells = [.int .u8 v.k, .int .i64 v.n, .str v.s] := rfl

/-- A slice that reads as a row is one. -/
theorem row_of {κ : Kap} {w : World} {sz : Nat} {l : List Val} {full : Bool} {v : Value} (r : DR κ w.heap (.lst sz (l.map vD) full) v) : ∃ A c, v = .slice A l.length c ∧ Row w A l := by
  generalize he : l.map vD = els at r
  cases r with
  | lst0 hf =>
    have : l = [] := by simpa using he
    subst this
    exact ⟨_, _, rfl, Sl.nil w 3 _⟩
  | @lst _ _ _ b off cap c ty fz hκ hb hf hc hs hz hr =>
    subst he
    refine ⟨_, _, by rw [List.length_map], ⟨by rw [rowCells_length], fun h0 => ⟨b, off, rfl, fun j u hj => ?_⟩⟩⟩
    rw [cell_at hb]
    have hjl : j < l.length * 3 := by rw [← rowCells_length]; exact (List.getElem?_eq_some_iff.1 hj).1
    have hi : j / 3 < l.length := by omega
    have hx : (l.map vD)[j / 3]? = some (vD l[j / 3]) := by simp [hi]
    have hsz : sz = 3 := by
      have := (hz _ (List.mem_of_getElem? hx)).1
      simpa [vD_cells] using this.symm
    subst hsz
    obtain ⟨g0, g1, g2⟩ := rowCells_get l (j / 3) hi
    have hcs : off + j < c.size := by
      have : l.length ≤ cap := by simpa using hc
      omega
    have key : ∀ (t : Nat) (y : DV) (u' : Value), j = j / 3 * 3 + t → [DV.int .u8 l[j / 3].k, .int .i64 l[j / 3].n, .str l[j / 3].s][t]? = some y → (rowCells l)[j]? = some u' → y.one = some u' → c[off + j]? = some u := by
      intro t y u' hj2 hy hu hone
      rw [hj] at hu
      injection hu with hu
      subst hu
      have e : c[off + j]? = some c[off + j] := by simp [hcs]
      have := (hr (j / 3) _ t y c[off + j] hx (by rw [vD_cells]; exact hy) (by rw [show off + j / 3 * 3 + t = off + j by omega]; exact e)).one hone
      rw [e, this]
    have h3 : j = j / 3 * 3 + 0 ∨ j = j / 3 * 3 + 1 ∨ j = j / 3 * 3 + 2 := by omega
    rcases h3 with h3 | h3 | h3
    · exact key 0 _ _ h3 rfl ((congrArg (fun q => (rowCells l)[q]?) h3).trans g0) rfl
    · exact key 1 _ _ h3 rfl ((congrArg (fun q => (rowCells l)[q]?) h3).trans g1) rfl
    · exact key 2 _ _ h3 rfl ((congrArg (fun q => (rowCells l)[q]?) h3).trans g2) rfl

/-- A row as an argument: what a walk over every such row says. -/
theorem C_row {f : FuncId} {sz : Nat} {els : List DV} {full : Bool} {d : DV} {v : Value} (h0 : okRow els = true) (hd : d.flat = some v)
    (h : ∀ (A : Option Addr) (c : Nat) (w : World), Row w A (toRow els) → Calls Try.prog f #[.slice A (toRow els).length c] w fun e w' => e = .returned v ∧ Below w.heap.size w w') :
    C Try.prog f [.d (.lst sz els full)] [] (fun r o => r = .d d ∧ o = []) := by
  refine C_of_calls (args := [.lst sz els full]) fun κ w vs hk hl hr => ?_
  have hl1 : vs.size = 1 := by simpa using hl
  have e1 : vs[0]? = some vs[0] := by simp [show 0 < vs.size by omega]
  have r := hr 0 _ _ rfl e1
  rw [(okRow_spec h0).1] at r
  obtain ⟨A, c, hA, hR⟩ := row_of r
  have : vs = #[.slice A (toRow els).length c] := by
    apply Array.ext
    · simpa using hl
    · intro i hi hi2
      simp at hi2; subst hi2
      simpa using hA
  subst this
  refine (h A c w hR).mono ?_
  rintro e w' ⟨rfl, hB⟩
  exact ⟨v, κ, rfl, DR.of_flat hd, ⟨hB.size, hB.os, hB.output⟩, fun b hb => ⟨hB.block b hb, rfl⟩, fun b hb => Nat.lt_of_lt_of_le (hk b hb) hB.size⟩

def putD (l : List Val) : DV := .tup [.str (putRow l).1, .int .i64 (putRow l).2]
def gRow (k : List Val → DV) (c : List Val → Bool) : DV → Option (DV × List Bool)
  | .lst _ els _ => some (k (toRow els), [okRow els, c (toRow els)])
  | _ => none

theorem gRow_ok {f : FuncId} {k : List Val → DV} {c : List Val → Bool} (h : ∀ (l : List Val), l.length ≤ 65536 → (∀ v ∈ l, v.wf) → c l = true → ∃ v, (k l).flat = some v ∧
    ∀ (A : Option Addr) (c : Nat) (w : World), Row w A l → Calls Try.prog f #[.slice A l.length c] w fun e w' => e = .returned v ∧ Below w.heap.size w w') : EntOk Try.prog f (e1 (gRow k c)) := by
  refine e1_ok fun x y cs hg hc => ?_
  unfold gRow at hg
  split at hg
  · rename_i sz els full
    simp only [Option.some.injEq, Prod.mk.injEq] at hg
    obtain ⟨rfl, rfl⟩ := hg
    have h0 := hc _ (by simp : okRow els ∈ [okRow els, c (toRow els)])
    have h1 := hc _ (by simp : c (toRow els) ∈ [okRow els, c (toRow els)])
    obtain ⟨g1, g2, g3⟩ := okRow_spec h0
    obtain ⟨v, hv, hw⟩ := h _ g3 g2 h1
    exact C_row h0 hv hw
  · cases hg

theorem put_ent : EntOk Try.prog 55 (e1 (gRow putD fun _ => true)) :=
  gRow_ok fun l h1 h2 _ => ⟨_, rfl, fun A c w hr => put09_any A c l w hr h1 h2⟩
def sameG : DV → DV → Option (DV × List Bool)
  | .lst _ e1 _, .lst _ e2 _ => some (.bool (decide (toRow e1 = toRow e2)), [okRow e1, okRow e2])
  | _, _ => none
theorem same_ent : EntOk Try.prog 36 (e2 sameG) := by
  refine e2_ok fun x x2 y cs hg hc => ?_
  unfold sameG at hg
  split at hg
  · rename_i sz els full sz2 els2 full2
    simp only [Option.some.injEq, Prod.mk.injEq] at hg
    obtain ⟨rfl, rfl⟩ := hg
    have h0 := hc _ (by simp : okRow els ∈ [okRow els, okRow els2])
    have h1 := hc _ (by simp : okRow els2 ∈ [okRow els, okRow els2])
    obtain ⟨g1, g2, g3⟩ := okRow_spec h0
    obtain ⟨k1, k2, k3⟩ := okRow_spec h1
    refine C_of_calls (args := [.lst sz els full, .lst sz2 els2 full2]) fun κ w vs hk hl hr => ?_
    have hl2 : vs.size = 2 := by simpa using hl
    have q1 : vs[0]? = some vs[0] := by simp [show 0 < vs.size by omega]
    have q2 : vs[1]? = some vs[1] := by simp [show 1 < vs.size by omega]
    have r1 := hr 0 _ _ rfl q1
    have r2 := hr 1 _ _ rfl q2
    rw [g1] at r1
    rw [k1] at r2
    obtain ⟨A, c, hA, hR⟩ := row_of r1
    obtain ⟨A2, c2, hA2, hR2⟩ := row_of r2
    have : vs = #[.slice A (toRow els).length c, .slice A2 (toRow els2).length c2] := by
      apply Array.ext
      · simpa using hl
      · intro i hi hi2
        simp at hi2
        have : i = 0 ∨ i = 1 := by omega
        rcases this with rfl | rfl
        · simpa using hA
        · simpa using hA2
    subst this
    refine (same_any A A2 c c2 _ _ w hR hR2 g3).mono ?_
    rintro e w' ⟨rfl, hB⟩
    exact ⟨_, κ, rfl, .bool _, ⟨hB.size, hB.os, hB.output⟩, fun b hb => ⟨hB.block b hb, rfl⟩, fun b hb => Nat.lt_of_lt_of_le (hk b hb) hB.size⟩
  · cases hg

end Go.Proofs.Ytljfolepmkcjlaa

/-
  Plain facts about changes: their order, which changesets may be, one set upon the other. No program in sight.
-/
namespace Go.Proofs.Ytljfolepmkcjlaa.Plain

structure Chg where
  t : Bs
  k : List Val
  o : List Val
  n : List Val
  deriving DecidableEq

def cmpI (a b : Int) : Int := if a < b then -1 else if a > b then 1 else 0
def cmpS (s t : Bs) : Int := Go.Lib.compareBytes s t
def cmpV (a b : Val) : Int := if a.k < b.k then -1 else if a.k > b.k then 1 else if a.k = 1 then cmpI a.n b.n else if a.k = 2 ∨ a.k = 3 then cmpS a.s b.s else 0
def cmpR : List Val → List Val → Int
  | [], [] => 0
  | [], _ :: _ => -1
  | _ :: _, [] => 1
  | a :: r, b :: q => if cmpV a b = 0 then cmpR r q else cmpV a b
def cmpC (a b : Chg) : Int := if cmpS a.t b.t = 0 then cmpR a.k b.k else cmpS a.t b.t

/-- may a row be put? -/
def rowB (l : List Val) : Bool := decide ((putRow l).2 = 0)
def mayC (c : Chg) : Bool := decide (1 ≤ c.t.length) && decide (c.t.length ≤ 32) && decide (1 ≤ c.k.length) && !decide (c.o = c.n) && rowB c.k && rowB c.o && rowB c.n
/-- each may be, and each stands behind the one before it -/
def mayI : Option Chg → List Chg → Bool
  | _, [] => true
  | p, x :: r => mayC x && (match p with | none => true | some y => decide (cmpC y x < 0)) && mayI (some x) r
def mayL (l : List Chg) : Bool := decide (l.length ≤ 1000) && mayI none l

/-! ### The order -/
theorem cmpI_anti (a b : Int) : cmpI b a = - cmpI a b := by unfold cmpI; split <;> split <;> (try split) <;> omega
theorem cmpI_eq {a b : Int} (h : cmpI a b = 0) : a = b := by unfold cmpI at h; split at h <;> (try split at h) <;> omega
theorem cmpI_lt {a b : Int} : cmpI a b < 0 ↔ a < b := by unfold cmpI; split <;> (try split) <;> omega

theorem cmpS_self : ∀ (s : Bs), cmpS s s = 0
  | [] => rfl
  | a :: r => by
    show Go.Lib.compareBytes (a :: r) (a :: r) = 0
    rw [Go.Lib.compareBytes, if_neg (UInt8.lt_irrefl a), if_neg (UInt8.lt_irrefl a)]
    exact cmpS_self r
theorem cmpS_anti : ∀ (s t : Bs), cmpS t s = - cmpS s t
  | [], [] => rfl
  | [], _ :: _ => rfl
  | _ :: _, [] => rfl
  | a :: r, b :: q => by
    have ih := cmpS_anti r q
    simp only [cmpS, Go.Lib.compareBytes] at *
    have := @UInt8.lt_asymm a b
    by_cases h1 : a < b
    · simp [h1, this h1]
    · by_cases h2 : b < a
      · simp [h1, h2]
      · simp [h1, h2, ih]
theorem cmpS_eq : ∀ {s t : Bs}, cmpS s t = 0 → s = t
  | [], [], _ => rfl
  | [], _ :: _, h => by simp [cmpS, Go.Lib.compareBytes] at h
  | _ :: _, [], h => by simp [cmpS, Go.Lib.compareBytes] at h
  | a :: r, b :: q, h => by
    simp only [cmpS, Go.Lib.compareBytes] at h
    by_cases h1 : a < b
    · simp [h1] at h
    · by_cases h2 : b < a
      · simp [h1, h2] at h
      · simp only [h1, h2, if_false] at h
        have : a = b := by
          have e1 : ¬ a.toNat < b.toNat := fun hh => h1 (UInt8.lt_iff_toNat_lt.2 hh)
          have e2 : ¬ b.toNat < a.toNat := fun hh => h2 (UInt8.lt_iff_toNat_lt.2 hh)
          exact UInt8.toNat_inj.1 (by omega)
        rw [this, cmpS_eq (s := r) (t := q) h]
theorem cmpS_trans : ∀ {a b c : Bs}, cmpS a b < 0 → cmpS b c < 0 → cmpS a c < 0
  | [], [], _, h, _ => by simp [cmpS, Go.Lib.compareBytes] at h
  | [], _ :: _, [], _, h => by simp [cmpS, Go.Lib.compareBytes] at h
  | [], _ :: _, _ :: _, _, _ => by simp [cmpS, Go.Lib.compareBytes]
  | _ :: _, [], _, h, _ => by simp [cmpS, Go.Lib.compareBytes] at h
  | _ :: _, _ :: _, [], _, h => by simp [cmpS, Go.Lib.compareBytes] at h
  | a :: r, b :: q, c :: p, h1, h2 => by
    have ih := @cmpS_trans r q p
    simp only [cmpS, Go.Lib.compareBytes, UInt8.lt_iff_toNat_lt] at *
    by_cases x1 : a.toNat < b.toNat
    · by_cases x2 : b.toNat < c.toNat
      · rw [if_pos (by omega)]; omega
      · rw [if_neg x2] at h2
        by_cases x3 : c.toNat < b.toNat
        · rw [if_pos x3] at h2; omega
        · rw [if_pos (by omega)]; omega
    · rw [if_neg x1] at h1
      by_cases x4 : b.toNat < a.toNat
      · rw [if_pos x4] at h1; omega
      · rw [if_neg x4] at h1
        by_cases x2 : b.toNat < c.toNat
        · rw [if_pos (by omega)]; omega
        · rw [if_neg x2] at h2
          by_cases x3 : c.toNat < b.toNat
          · rw [if_pos x3] at h2; omega
          · rw [if_neg x3] at h2
            rw [if_neg (by omega), if_neg (by omega)]
            exact ih h1 h2

theorem cmpV_self (v : Val) : cmpV v v = 0 := by
  unfold cmpV
  rw [if_neg (by omega), if_neg (by omega)]
  split
  · unfold cmpI; split <;> (try split) <;> omega
  · split
    · exact cmpS_self _
    · rfl
theorem cmpV_anti (a b : Val) : cmpV b a = - cmpV a b := by
  unfold cmpV
  by_cases h1 : a.k < b.k
  · rw [if_neg (by omega), if_pos (by omega), if_pos h1]; omega
  · by_cases h2 : a.k > b.k
    · rw [if_pos (by omega), if_neg h1, if_pos h2]
    · have he : b.k = a.k := by omega
      rw [if_neg h2, if_neg h1, if_neg h1, if_neg h2, he]
      split
      · exact cmpI_anti _ _
      · split
        · exact cmpS_anti _ _
        · rfl
theorem cmpV_eq {a b : Val} (ha : chk a = 0) (hb : chk b = 0) (wa : a.wf) (wb : b.wf) (h : cmpV a b = 0) : a = b := by
  obtain ⟨a1, a2, a3, _⟩ := chk_zero ha
  obtain ⟨b1, b2, b3, _⟩ := chk_zero hb
  obtain ⟨x1, _⟩ := wa
  unfold cmpV at h
  by_cases h1 : a.k < b.k
  · rw [if_pos h1] at h; omega
  · rw [if_neg h1] at h
    by_cases h2 : a.k > b.k
    · rw [if_pos h2] at h; omega
    · rw [if_neg h2] at h
      obtain ⟨ak, an, aq⟩ := a
      obtain ⟨bk, bn, bs⟩ := b
      simp only at *
      have hk : ak = bk := by omega
      subst hk
      by_cases h3 : ak = 1
      · rw [if_pos h3] at h
        have := cmpI_eq h
        have e1 : aq = [] := by rcases a3 with h | h; omega; exact h
        have e2 : bs = [] := by rcases b3 with h | h; omega; exact h
        subst this e1 e2; rfl
      · have e1 : an = 0 := by rcases a2 with h | h; omega; exact h
        have e2 : bn = 0 := by rcases b2 with h | h; omega; exact h
        rw [if_neg h3] at h
        by_cases h4 : ak = 2 ∨ ak = 3
        · rw [if_pos h4] at h
          have := cmpS_eq h
          subst this e1 e2; rfl
        · have e3 : aq = [] := by rcases a3 with h | h; omega; exact h
          have e4 : bs = [] := by rcases b3 with h | h; omega; exact h
          subst e1 e2 e3 e4; rfl
theorem cmpV_trans {a b c : Val} (h1 : cmpV a b < 0) (h2 : cmpV b c < 0) : cmpV a c < 0 := by
  unfold cmpV at *
  by_cases x1 : a.k < b.k
  · by_cases x2 : b.k > c.k
    · rw [if_neg (by omega), if_pos x2] at h2; omega
    · rw [if_pos (by omega)]; omega
  · rw [if_neg x1] at h1
    by_cases x2 : a.k > b.k
    · rw [if_pos x2] at h1; omega
    · rw [if_neg x2] at h1
      by_cases y1 : b.k < c.k
      · rw [if_pos (by omega)]; omega
      · rw [if_neg y1] at h2
        by_cases y2 : b.k > c.k
        · rw [if_pos y2] at h2; omega
        · rw [if_neg y2] at h2
          rw [if_neg (by omega), if_neg (by omega)]
          have e : b.k = a.k := by omega
          rw [e] at h2
          by_cases z1 : a.k = 1
          · rw [if_pos z1] at h1 h2 ⊢
            rw [cmpI_lt] at *; omega
          · rw [if_neg z1] at h1 h2 ⊢
            by_cases z2 : a.k = 2 ∨ a.k = 3
            · rw [if_pos z2] at h1 h2 ⊢
              exact cmpS_trans h1 h2
            · rw [if_neg z2] at h1; omega

/-- the values of a row that may be -/
def rowOk (l : List Val) : Prop := ∀ v ∈ l, chk v = 0 ∧ v.wf

theorem cmpR_self : ∀ (l : List Val), cmpR l l = 0
  | [] => rfl
  | v :: r => by simp only [cmpR, cmpV_self, if_true]; exact cmpR_self r
theorem cmpR_anti : ∀ (a b : List Val), cmpR b a = - cmpR a b
  | [], [] => rfl
  | [], _ :: _ => rfl
  | _ :: _, [] => rfl
  | a :: r, b :: q => by
    have ih := cmpR_anti r q
    simp only [cmpR, cmpV_anti a b]
    by_cases h : cmpV a b = 0
    · rw [if_pos h, if_pos (by omega), ih]
    · rw [if_neg h, if_neg (by omega)]
theorem cmpR_eq : ∀ {a b : List Val}, rowOk a → rowOk b → cmpR a b = 0 → a = b
  | [], [], _, _, _ => rfl
  | [], _ :: _, _, _, h => by simp [cmpR] at h
  | _ :: _, [], _, _, h => by simp [cmpR] at h
  | a :: r, b :: q, ha, hb, h => by
    simp only [cmpR] at h
    by_cases x : cmpV a b = 0
    · rw [if_pos x] at h
      have e := cmpV_eq (ha a (by simp)).1 (hb b (by simp)).1 (ha a (by simp)).2 (hb b (by simp)).2 x
      have e2 := cmpR_eq (a := r) (b := q) (fun v hv => ha v (by simp [hv])) (fun v hv => hb v (by simp [hv])) h
      rw [e, e2]
    · rw [if_neg x] at h; exact absurd h x
theorem cmpR_trans : ∀ {a b c : List Val}, rowOk a → rowOk b → rowOk c → cmpR a b < 0 → cmpR b c < 0 → cmpR a c < 0
  | [], [], _, _, _, _, h, _ => by simp [cmpR] at h
  | [], _ :: _, [], _, _, _, _, h => by simp [cmpR] at h
  | [], _ :: _, _ :: _, _, _, _, _, _ => by simp [cmpR]
  | _ :: _, [], _, _, _, _, h, _ => by simp [cmpR] at h
  | _ :: _, _ :: _, [], _, _, _, _, h => by simp [cmpR] at h
  | a :: r, b :: q, c :: p, ha, hb, hc, h1, h2 => by
    have ih := @cmpR_trans r q p (fun v hv => ha v (by simp [hv])) (fun v hv => hb v (by simp [hv])) (fun v hv => hc v (by simp [hv]))
    have va := ha a (by simp)
    have vb := hb b (by simp)
    have vc := hc c (by simp)
    simp only [cmpR] at *
    by_cases x : cmpV a b = 0
    · have e := cmpV_eq va.1 vb.1 va.2 vb.2 x
      subst e
      rw [if_pos x] at h1
      by_cases y : cmpV a c = 0
      · rw [if_pos y] at h2 ⊢; exact ih h1 h2
      · rw [if_neg y] at h2 ⊢; exact h2
    · rw [if_neg x] at h1
      by_cases y : cmpV b c = 0
      · have e := cmpV_eq vb.1 vc.1 vb.2 vc.2 y
        subst e
        rw [if_neg x]; exact h1
      · rw [if_neg y] at h2
        have := cmpV_trans h1 h2
        rw [if_neg (by omega)]; exact this

def Chg.wf (c : Chg) : Prop := (∀ v ∈ c.k, v.wf) ∧ (∀ v ∈ c.o, v.wf) ∧ (∀ v ∈ c.n, v.wf)

theorem cmpC_self (c : Chg) : cmpC c c = 0 := by unfold cmpC; rw [if_pos (cmpS_self _)]; exact cmpR_self _
theorem cmpC_anti (a b : Chg) : cmpC b a = - cmpC a b := by
  unfold cmpC
  rw [cmpS_anti a.t b.t]
  by_cases h : cmpS a.t b.t = 0
  · rw [if_pos h, if_pos (by omega)]; exact cmpR_anti _ _
  · rw [if_neg h, if_neg (by omega)]
theorem cmpC_eq {a b : Chg} (ha : rowOk a.k) (hb : rowOk b.k) (h : cmpC a b = 0) : a.t = b.t ∧ a.k = b.k := by
  unfold cmpC at h
  by_cases x : cmpS a.t b.t = 0
  · rw [if_pos x] at h; exact ⟨cmpS_eq x, cmpR_eq ha hb h⟩
  · rw [if_neg x] at h; exact absurd h x
theorem cmpC_of {a b : Chg} (ht : a.t = b.t) (hk : a.k = b.k) : cmpC a b = 0 := by
  unfold cmpC; rw [ht, hk, if_pos (cmpS_self _)]; exact cmpR_self _
theorem cmpC_trans {a b c : Chg} (ha : rowOk a.k) (hb : rowOk b.k) (hc : rowOk c.k) (h1 : cmpC a b < 0) (h2 : cmpC b c < 0) : cmpC a c < 0 := by
  unfold cmpC at *
  by_cases x : cmpS a.t b.t = 0
  · have e := cmpS_eq x
    rw [if_pos x] at h1
    rw [e]
    by_cases y : cmpS b.t c.t = 0
    · rw [if_pos y] at h2 ⊢; exact cmpR_trans ha hb hc h1 h2
    · rw [if_neg y] at h2 ⊢; exact h2
  · rw [if_neg x] at h1
    by_cases y : cmpS b.t c.t = 0
    · have e := cmpS_eq y
      rw [← e, if_neg x]; exact h1
    · rw [if_neg y] at h2
      have := cmpS_trans h1 h2
      rw [if_neg (by omega)]; exact this

theorem mayC_key {c : Chg} (h : mayC c = true) (w : c.wf) : rowOk c.k := by
  simp only [mayC, Bool.and_eq_true, rowB, decide_eq_true_eq] at h
  have := putRow_ok h.1.1.2
  have h2 := (chkRow_zero this.1).2
  exact fun v hv => ⟨h2 v hv, w.1 v hv⟩

/-- the first stands ahead of all that follow -/
def sorted : List Chg → Prop
  | [] => True
  | x :: r => (∀ y ∈ r, cmpC x y < 0) ∧ sorted r

theorem mayI_spec : ∀ {l : List Chg} {p : Option Chg}, mayI p l = true → (∀ c ∈ l, c.wf) → (∀ q, p = some q → rowOk q.k) → (∀ c ∈ l, mayC c = true ∧ rowOk c.k) ∧ sorted l ∧ ∀ q, p = some q → ∀ c ∈ l, cmpC q c < 0
  | [], p, _, _, _ => ⟨by simp, trivial, by simp⟩
  | x :: r, p, h, w, hq => by
    simp only [mayI, Bool.and_eq_true] at h
    obtain ⟨⟨h1, h2⟩, h3⟩ := h
    have hx := mayC_key h1 (w x (by simp))
    obtain ⟨i1, i2, i3⟩ := mayI_spec h3 (fun c hc => w c (by simp [hc])) (fun q e => by injection e with e; subst e; exact hx)
    refine ⟨?_, ⟨i3 x rfl, i2⟩, ?_⟩
    · intro c hc
      rcases List.mem_cons.1 hc with rfl | hc
      · exact ⟨h1, hx⟩
      · exact i1 c hc
    · rintro q rfl c hc
      simp only [decide_eq_true_eq] at h2
      rcases List.mem_cons.1 hc with rfl | hc
      · exact h2
      · exact cmpC_trans (hq q rfl) hx (i1 c hc).2 h2 (i3 x rfl c hc)

/-! ### One upon the other -/
/-- goes over ours with what is left of theirs -/
def walkC : List Chg → List Chg → Option (List (Chg × Option Chg))
  | [], _ => some []
  | x :: r, th => match th.dropWhile (fun y => decide (cmpC y x < 0)) with
    | [] => (walkC r []).map fun q => (x, none) :: q
    | y :: q => if cmpC y x > 0 then (walkC r (y :: q)).map fun p => (x, none) :: p
      else if x.o = y.o then (walkC r (y :: q)).map fun p => (x, some y) :: p else none
def atC (x : Chg) (l : List Chg) : Option Chg := l.find? fun y => decide (y.t = x.t ∧ y.k = x.k)
def fits (th : List Chg) (x : Chg) : Bool := match atC x th with
  | none => true
  | some y => decide (x.o = y.o)
def upF (win : Bool) : Chg × Option Chg → Option Chg
  | (x, none) => some x
  | (x, some y) => if win = true ∧ x.n ≠ y.n then some ⟨x.t, x.k, y.n, x.n⟩ else none
def meF : Chg × Option Chg → Option Chg
  | (_, none) => none
  | (x, some y) => if x.n ≠ y.n then some x else none

theorem atC_drop {x : Chg} : ∀ {l : List Chg}, atC x l = atC x (l.dropWhile fun y => decide (cmpC y x < 0))
  | [] => rfl
  | y :: r => by
    have ih := @atC_drop x r
    rw [List.dropWhile_cons]
    by_cases h : cmpC y x < 0
    · simp only [h, decide_true, if_true]
      rw [← ih]
      have : ¬ (y.t = x.t ∧ y.k = x.k) := fun ⟨a, b⟩ => by rw [cmpC_of a b] at h; omega
      simp [atC, this]
    · simp [h]
theorem sorted_drop (p : Chg → Bool) : ∀ {l : List Chg}, sorted l → sorted (l.dropWhile p)
  | [], h => h
  | y :: r, h => by
    rw [List.dropWhile_cons]
    split
    · exact sorted_drop p h.2
    · exact h

theorem mem_drop {p : Chg → Bool} {l : List Chg} {c : Chg} (h : c ∈ l.dropWhile p) : c ∈ l := (List.dropWhile_sublist p).subset h

theorem walkC_eq : ∀ (ours th : List Chg), (∀ c ∈ ours, rowOk c.k) → (∀ c ∈ th, rowOk c.k) → sorted ours → sorted th →
    walkC ours th = if ours.all (fits th) then some (ours.map fun x => (x, atC x th)) else none
  | [], th, _, _, _, _ => rfl
  | x :: r, th, ho, ht, so, st => by
    have hx := ho x (by simp)
    have hat : ∀ z ∈ r, ∀ l : List Chg, (∀ c ∈ l, rowOk c.k) → atC z l = atC z (l.dropWhile fun y => decide (cmpC y x < 0)) := by
      intro z hz l hl
      induction l with
      | nil => rfl
      | cons y q ih =>
        rw [List.dropWhile_cons]
        by_cases h : cmpC y x < 0
        · simp only [h, decide_true, if_true]
          rw [← ih (fun c hc => hl c (by simp [hc]))]
          have h2 := cmpC_trans (hl y (by simp)) hx (ho z (by simp [hz])) h (so.1 z hz)
          have : ¬ (y.t = z.t ∧ y.k = z.k) := fun ⟨a, b⟩ => by rw [cmpC_of a b] at h2; omega
          simp [atC, this]
        · simp [h]
    have hr : ∀ z ∈ r, atC z th = atC z (th.dropWhile fun y => decide (cmpC y x < 0)) := fun z hz => hat z hz th ht
    have hxa := @atC_drop x th
    have st2 := sorted_drop (fun y => decide (cmpC y x < 0)) st
    have ht2 : ∀ c ∈ th.dropWhile (fun y => decide (cmpC y x < 0)), rowOk c.k := fun c hc => ht c (mem_drop hc)
    have hhd : ∀ y q, th.dropWhile (fun y => decide (cmpC y x < 0)) = y :: q → ¬ cmpC y x < 0 := by
      intro y q e
      have := List.head?_dropWhile_not (fun y => decide (cmpC y x < 0)) th
      rw [e] at this
      simpa using this
    have ih := walkC_eq r (th.dropWhile fun y => decide (cmpC y x < 0)) (fun c hc => ho c (by simp [hc])) ht2 so.2 st2
    have hall : r.all (fits th) = r.all (fits (th.dropWhile fun y => decide (cmpC y x < 0))) := by
      apply Bool.eq_iff_iff.2
      simp only [List.all_eq_true, fits]
      constructor
      · intro h z hz; rw [← hr z hz]; exact h z hz
      · intro h z hz; rw [hr z hz]; exact h z hz
    have hmap : (r.map fun x => (x, atC x th)) = r.map fun z => (z, atC z (th.dropWhile fun y => decide (cmpC y x < 0))) := by
      apply List.map_congr_left
      intro z hz; rw [hr z hz]
    rw [List.all_cons, List.map_cons, hall, hmap, walkC]
    generalize th.dropWhile (fun y => decide (cmpC y x < 0)) = l at *
    have hf : fits th x = match atC x l with | none => true | some y => decide (x.o = y.o) := by rw [fits, hxa]
    rw [hf, hxa]
    cases l with
    | nil =>
      simp only [ih]
      simp only [atC, List.find?_nil, Bool.true_and]
      split <;> rfl
    | cons y q =>
      have hn := hhd y q rfl
      simp only [ih]
      by_cases h : cmpC y x > 0
      · have ha : atC x (y :: q) = none := by
          unfold atC
          rw [List.find?_eq_none]
          intro z hz
          simp only [decide_eq_true_eq]
          rintro ⟨a, b⟩
          have e0 := cmpC_of a b
          rcases List.mem_cons.1 hz with rfl | hz
          · omega
          · have h3 := st2.1 z hz
            have h4 : cmpC x y < 0 := by rw [cmpC_anti y x]; omega
            have h5 := cmpC_trans hx (ht2 y (by simp)) (ht2 z (by simp [hz])) h4 h3
            rw [cmpC_anti z x] at h5; omega
        rw [if_pos h, ha]
        simp only [Bool.true_and]
        split <;> rfl
      · have e0 : cmpC y x = 0 := by omega
        obtain ⟨e1, e2⟩ := cmpC_eq (ht2 y (by simp)) hx e0
        have ha : atC x (y :: q) = some y := by simp [atC, e1, e2]
        rw [if_neg h, ha]
        simp only
        by_cases h5 : x.o = y.o
        · simp only [h5, if_true, decide_true, Bool.true_and]
          split <;> rfl
        · simp [h5]

/-- what is answered: the changes, and the error -/
def meetR (f : Chg × Option Chg → Option Chg) (ours th : List Chg) : List Chg × Int :=
  if mayL ours && mayL th then
    match walkC ours th with
    | some l => (l.filterMap f, 0)
    | none => ([], 220)
  else ([], 2)
def refE (ours th : List Chg) : Int := if mayL ours && mayL th then (if ours.all (fits th) then 0 else 220) else 2
def meetQ (f : Chg × Option Chg → Option Chg) (ours th : List Chg) : List Chg × Int :=
  if refE ours th = 0 then (ours.filterMap fun x => f (x, atC x th), 0) else ([], refE ours th)
theorem meet_eq (f : Chg × Option Chg → Option Chg) (ours th : List Chg) (wo : ∀ c ∈ ours, c.wf) (wt : ∀ c ∈ th, c.wf) : meetR f ours th = meetQ f ours th := by
  unfold meetR meetQ refE
  by_cases h : (mayL ours && mayL th) = true
  · simp only [h, if_true]
    simp only [mayL, Bool.and_eq_true] at h
    obtain ⟨⟨_, h1⟩, ⟨_, h2⟩⟩ := h
    obtain ⟨a1, a2, _⟩ := mayI_spec h1 wo (by simp)
    obtain ⟨b1, b2, _⟩ := mayI_spec h2 wt (by simp)
    rw [walkC_eq ours th (fun c hc => (a1 c hc).2) (fun c hc => (b1 c hc).2) a2 b2]
    by_cases h3 : ours.all (fits th) = true
    · simp [h3, List.filterMap_map, Function.comp_def]
    · simp [h3]
  · simp [h]
end Go.Proofs.Ytljfolepmkcjlaa.Plain

/-
  Changes as data; what walks over them use.
-/
namespace Go.Proofs.Ytljfolepmkcjlaa
open Go.RowKit Plain Am IntWalk
set_option maxRecDepth 100000

noncomputable def cfT (l : List (Nat × Ent)) : Cfg := { E := Env.of Try.prog, K := konOf l, byref := fun _ => false, callOk := cok }
theorem cfT_ok {l : List (Nat × Ent)} (h : EntsOk Try.prog l) : Ok Try.prog (cfT l) := ⟨⟨rfl, konOf_ok h, fun _ h => h⟩, mixed⟩
theorem wrap_succ {i : Nat} (h : i ≤ 1000000) : IntKind.i64.wrap ((i : Int) + 1) = ((i + 1 : Nat) : Int) := by rw [i64_in _ (by omega)]; omega
abbrev Ends (rs : List ResultVar) (v : RV) : SSt → Prop := fun s => ∃ r objs' c, finish (Env.of Try.prog) true 0 rs s.R s.O = some (r, objs', c) ∧ (∀ b ∈ c, b = true) ∧ r = v ∧ objs' = []

abbrev rD (l : List Val) : DV := .lst 3 (l.map vD) false
def chD (c : Chg) : DV := .agg [.str c.t, rD c.k, rD c.o, rD c.n]
def toChg : DV → Chg
  | .agg [.str t, .lst _ k _, .lst _ o _, .lst _ n _] => ⟨t, toRow k, toRow o, toRow n⟩
  | _ => ⟨[], [], [], []⟩
def isR : DV → Bool
  | .lst sz els full => okRow els && decide (sz = 3) && !full
  | _ => false
def isC : DV → Bool
  | .agg [.str _, a, b, c] => isR a && isR b && isR c
  | _ => false
def Chg.ok (c : Chg) : Prop := c.wf ∧ c.k.length ≤ 65536 ∧ c.o.length ≤ 65536 ∧ c.n.length ≤ 65536
theorem isR_rD {l : List Val} (hl : l.length ≤ 65536) (hw : ∀ v ∈ l, v.wf) : isR (rD l) = true := by simp [isR, okRow_map hl hw]
theorem isC_chD {c : Chg} (h : Chg.ok c) : isC (chD c) = true := by
  obtain ⟨⟨w1, w2, w3⟩, l1, l2, l3⟩ := h
  simp only [chD, isC, isR_rD l1 w1, isR_rD l2 w2, isR_rD l3 w3]; rfl
theorem toChg_chD (c : Chg) : toChg (chD c) = c := by simp [chD, toChg, rD, toRow_map]
theorem isR_spec {x : DV} (h : isR x = true) : ∃ l, x = rD l ∧ (∀ v ∈ l, v.wf) ∧ l.length ≤ 65536 := by
  unfold isR at h
  split at h
  · rename_i sz els full
    simp only [Bool.and_eq_true, decide_eq_true_eq, Bool.not_eq_true'] at h
    obtain ⟨⟨h1, rfl⟩, rfl⟩ := h
    obtain ⟨g1, g2, g3⟩ := okRow_spec h1
    exact ⟨toRow els, by rw [rD, ← g1], g2, g3⟩
  · cases h
theorem isC_spec {x : DV} (h : isC x = true) : ∃ c, x = chD c ∧ Chg.ok c := by
  unfold isC at h
  split at h
  · rename_i t a b c
    simp only [Bool.and_eq_true] at h
    obtain ⟨⟨h1, h2⟩, h3⟩ := h
    obtain ⟨k, rfl, w1, l1⟩ := isR_spec h1
    obtain ⟨o, rfl, w2, l2⟩ := isR_spec h2
    obtain ⟨n, rfl, w3, l3⟩ := isR_spec h3
    exact ⟨⟨t, k, o, n⟩, rfl, ⟨w1, w2, w3⟩, l1, l2, l3⟩
  · cases h
theorem getD_val (l : List Val) (i : Nat) (h : i < l.length) : (l.map vD).getD i .nilp = vD l[i] := by simp [h]
theorem getD_chg (l : List Chg) (i : Nat) (h : i < l.length) : (l.map chD).getD i .nilp = chD l[i] := by simp [h]
end Go.Proofs.Ytljfolepmkcjlaa

/-
  What walks over changes answer: the tables' entries.
-/
namespace Go.Proofs.Ytljfolepmkcjlaa
open Go.RowKit Plain Am IntWalk
set_option maxRecDepth 100000

abbrev vv (k n : Int) (s : Bs) : DV := .agg [.int .u8 k, .int .i64 n, .str s]
def chL (l : List Chg) : DV := .lst 4 (l.map chD) false
def unR : DV → List Val
  | .lst _ els _ => toRow els
  | _ => []
def unL : DV → List Chg
  | .lst _ els _ => els.map toChg
  | _ => []
def isL : DV → Bool
  | .lst sz els full => decide (els.length ≤ 65536) && els.all isC && decide (sz = 4) && !full
  | _ => false
theorem unR_rD (l : List Val) : unR (rD l) = l := toRow_map l
theorem unL_map (l : List Chg) : (l.map chD).map toChg = l := by
  rw [List.map_map]
  conv => rhs; rw [← List.map_id l]
  exact List.map_congr_left fun c _ => toChg_chD c
theorem unL_chL (l : List Chg) : unL (chL l) = l := unL_map l
def okL (l : List Chg) : Prop := l.length ≤ 65536 ∧ ∀ c ∈ l, Chg.ok c
theorem isL_chL {l : List Chg} (h : okL l) : isL (chL l) = true := by
  simp only [isL, chL, List.length_map, Bool.and_eq_true, decide_eq_true_eq, List.all_eq_true, List.mem_map]
  refine ⟨⟨⟨h.1, ?_⟩, trivial⟩, rfl⟩
  rintro x ⟨c, hc, rfl⟩
  exact isC_chD (h.2 c hc)
theorem isL_spec {x : DV} (h : isL x = true) : ∃ l, x = chL l ∧ okL l := by
  unfold isL at h
  split at h
  · rename_i sz els full
    simp only [Bool.and_eq_true, decide_eq_true_eq, Bool.not_eq_true', List.all_eq_true] at h
    obtain ⟨⟨⟨h1, h2⟩, rfl⟩, rfl⟩ := h
    have : ∃ l : List Chg, els = l.map chD ∧ ∀ c ∈ l, Chg.ok c := by
      clear h1
      induction els with
      | nil => exact ⟨[], rfl, by simp⟩
      | cons x r ih =>
        obtain ⟨l, rfl, hl⟩ := ih (fun y hy => h2 y (by simp [hy]))
        obtain ⟨c, rfl, hc⟩ := isC_spec (h2 x (by simp))
        exact ⟨c :: l, rfl, fun d hd => by
          rcases List.mem_cons.1 hd with rfl | hd
          · exact hc
          · exact hl d hd⟩
    obtain ⟨l, rfl, hl⟩ := this
    exact ⟨l, rfl, by simpa using h1, hl⟩
  · cases h

def cvG : DV → DV → Option (DV × List Bool)
  | .agg [.int .u8 k, .int .i64 n, .str s], .agg [.int .u8 k2, .int .i64 n2, .str s2] => some (.int .i64 (cmpV ⟨k, n, s⟩ ⟨k2, n2, s2⟩), [])
  | _, _ => none
def nuG : DV → DV → Option (DV × List Bool)
  | .int .i64 a, .int .i64 b => some (.int .i64 (cmpI a b), [])
  | _, _ => none
def eqG (x y : DV) : Option (DV × List Bool) := some (.bool (decide (unR x = unR y)), [isR x, isR y])
def crG (x y : DV) : Option (DV × List Bool) := some (.int .i64 (cmpR (unR x) (unR y)), [isR x, isR y])
def ccG (x y : DV) : Option (DV × List Bool) := some (.int .i64 (cmpC (toChg x) (toChg y)), [isC x, isC y])
def myG (x : DV) : Option (DV × List Bool) := some (.bool (mayC (toChg x)), [isC x])
def ckG (x : DV) : Option (DV × List Bool) := some (.int .i64 (if mayL (unL x) then 0 else 2), [isL x])
def smG (x y : DV) : Option (DV × List Bool) := some (.bool (decide (unL x = unL y)), [isL x, isL y])
/-- what the closures have added when going over ours has ended -/
def walkO (f : Chg × Option Chg → Option Chg) : List Chg → List Chg → List Chg
  | [], _ => []
  | x :: r, th => match th.dropWhile (fun y => decide (cmpC y x < 0)) with
    | [] => (f (x, none)).toList ++ walkO f r []
    | y :: q => if cmpC y x > 0 then (f (x, none)).toList ++ walkO f r (y :: q)
      else if x.o = y.o then (f (x, some y)).toList ++ walkO f r (y :: q) else []
def walkE : List Chg → List Chg → Int
  | [], _ => 0
  | x :: r, th => match th.dropWhile (fun y => decide (cmpC y x < 0)) with
    | [] => walkE r []
    | y :: q => if cmpC y x > 0 then walkE r (y :: q) else if x.o = y.o then walkE r (y :: q) else 220
theorem walk_OE (f : Chg × Option Chg → Option Chg) : ∀ (ours th : List Chg), (walkE ours th = 0 ∧ ∃ l, walkC ours th = some l ∧ walkO f ours th = l.filterMap f) ∨ (walkE ours th = 220 ∧ walkC ours th = none)
  | [], th => .inl ⟨rfl, [], rfl, rfl⟩
  | x :: r, th => by
    unfold walkE walkC walkO
    cases hd : th.dropWhile (fun y => decide (cmpC y x < 0)) with
    | nil =>
      simp only
      rcases walk_OE f r [] with ⟨h1, l, h2, h3⟩ | ⟨h1, h2⟩
      · refine .inl ⟨h1, (x, none) :: l, by rw [h2]; rfl, ?_⟩
        rw [h3, List.filterMap_cons]; cases f (x, none) <;> rfl
      · exact .inr ⟨h1, by rw [h2]; rfl⟩
    | cons y q =>
      simp only
      by_cases hg : cmpC y x > 0
      · simp only [hg, if_true]
        rcases walk_OE f r (y :: q) with ⟨h1, l, h2, h3⟩ | ⟨h1, h2⟩
        · refine .inl ⟨h1, (x, none) :: l, by rw [h2]; rfl, ?_⟩
          rw [h3, List.filterMap_cons]; cases f (x, none) <;> rfl
        · exact .inr ⟨h1, by rw [h2]; rfl⟩
      · simp only [hg, if_false]
        by_cases ho : x.o = y.o
        · simp only [ho, if_true]
          rcases walk_OE f r (y :: q) with ⟨h1, l, h2, h3⟩ | ⟨h1, h2⟩
          · refine .inl ⟨h1, (x, some y) :: l, by rw [h2]; rfl, ?_⟩
            rw [h3, List.filterMap_cons]; cases f (x, some y) <;> rfl
          · exact .inr ⟨h1, by rw [h2]; rfl⟩
        · simp [ho]
/-- the lists' error, the others' error -/
def meetE (ours th : List Chg) : Int := if mayL ours then (if mayL th then walkE ours th else 2) else 2
def meetO (f : Chg × Option Chg → Option Chg) (ours th : List Chg) : List Chg := if mayL ours && mayL th then walkO f ours th else []
theorem meetR_OE (f : Chg × Option Chg → Option Chg) (ours th : List Chg) : meetR f ours th = (if meetE ours th = 0 then meetO f ours th else [], meetE ours th) := by
  unfold meetR meetE meetO
  cases h1 : mayL ours <;> cases h2 : mayL th <;> simp
  rcases walk_OE f ours th with ⟨g1, l, g2, g3⟩ | ⟨g1, g2⟩
  · simp [g1, g2, g3]
  · simp [g1, g2]
def isS (o : Option Chg) : Bool := o.isSome
def isN (o : Option Chg) : Bool := o.isNone
def gF (o : Option Chg) : Chg := o.getD ⟨[], [], [], []⟩
/-- a closure's entry where something is added, and where nothing is -/
def cloU (yes : Bool) : Ent := fun a o => match a, o with
  | [.d x, y, .ptr 0 0, .ptr 1 0], [.box b [.d (.bool win)], .box l [.own 2 4], .arr T 4 els] => match y with
    | .d .nilp => some (.tup [], [.box b [.d (.bool win)], .box l [.own 3 4], .gone, .arr T 4 (els ++ [x])], [isC x, Nat.beq b 4, Nat.beq l 22, Nat.beq T 46, decide (els.length ≤ 1000000)])
    | .iptr yd 0 => match yes with
      | true => some (.tup [], [.box b [.d (.bool win)], .box l [.own 3 4], .gone, .arr T 4 (els ++ [chD (gF (upF win (toChg x, some (toChg yd))))])], [isC x, isC yd, Nat.beq b 4, Nat.beq l 22, Nat.beq T 46, decide (els.length ≤ 1000000), isS (upF win (toChg x, some (toChg yd)))])
      | false => some (.tup [], [.box b [.d (.bool win)], .box l [.own 2 4], .arr T 4 els], [isC x, isC yd, Nat.beq b 4, Nat.beq l 22, Nat.beq T 46, isN (upF win (toChg x, some (toChg yd)))])
    | _ => none
  | _, _ => none
def cloM (yes : Bool) : Ent := fun a o => match a, o with
  | [.d x, y, .ptr 0 0], [.box l [.own 1 4], .arr T 4 els] => match y with
    | .d .nilp => some (.tup [], [.box l [.own 1 4], .arr T 4 els], [isC x, Nat.beq l 22, Nat.beq T 46])
    | .iptr yd 0 => match yes with
      | true => some (.tup [], [.box l [.own 2 4], .gone, .arr T 4 (els ++ [chD (gF (meF (toChg x, some (toChg yd))))])], [isC x, isC yd, Nat.beq l 22, Nat.beq T 46, decide (els.length ≤ 1000000), isS (meF (toChg x, some (toChg yd)))])
      | false => some (.tup [], [.box l [.own 1 4], .arr T 4 els], [isC x, isC yd, Nat.beq l 22, Nat.beq T 46, isN (meF (toChg x, some (toChg yd)))])
    | _ => none
  | _, _ => none
end Go.Proofs.Ytljfolepmkcjlaa
