/-
  Texts that the claim leans on, one behind the other: N1, N2, N3.
-/
import Derived.Test.YtadndmmhpkmjeaaGreatDoorProg
import Derived.Test.YtadndmmhpkmjeaaGreatDoorAmE
import Derived.Test.YtadndmmhpkmjeaaGreatDoorShelfc
import Derived.Lib.Builder
import Derived.Lib.UnsafeStr
import Derived.Lib.Hide
import Derived.RegionTactic
import Derived.WalkKit
import Derived.Laws.Externs
import Derived.MapKept

/-
  The contracts of Go's library for the closed machine: strings.Fields, Count, Compare, stringslite.IndexByte.
-/
namespace Go.Proofs.YtadndmmhpkmjeaaGreatDoor
open Go.RowKit Am
set_option maxRecDepth 100000

noncomputable def spaceG : Nat := (Tryz.prog.globalNamed "strings.asciiSpace").getD 0
theorem glob_space : Tryz.prog.globalNamed "strings.asciiSpace" = some spaceG := by kernel_rfl
noncomputable def powG : Nat := (Tryz.prog.globalNamed "internal/strconv.uint64pow10").getD 0
theorem glob_pow : Tryz.prog.globalNamed "internal/strconv.uint64pow10" = some powG := by kernel_rfl
noncomputable instance glI : Gl := { gl := [(spaceG, (Lib.asciiSpaceTab.map fun z => Value.int .u8 z).toArray), (powG, (Lib.pow10Tab.map fun z => Value.int .u64 z).toArray)], mark := fun t => Nat.beq t 5 }

theorem space_is {κ : Kap} {w : World} (h : Bnd κ w) : Lib.TabIs Tryz.prog w "strings.asciiSpace" .u8 Lib.asciiSpaceTab := by
  obtain ⟨_, ty, fz, h2⟩ := h.gl (spaceG, (Lib.asciiSpaceTab.map fun z => Value.int .u8 z).toArray) (by simp [Gl.gl])
  unfold Lib.TabIs World.var?
  rw [glob_space]
  simp only [Option.bind_some, h2]

theorem pow_is {κ : Kap} {w : World} (h : Bnd κ w) : Lib.TabIs Tryz.prog w "internal/strconv.uint64pow10" .u64 Lib.pow10Tab := by
  obtain ⟨_, ty, fz, h2⟩ := h.gl (powG, (Lib.pow10Tab.map fun z => Value.int .u64 z).toArray) (by simp [Gl.gl])
  unfold Lib.TabIs World.var?
  rw [glob_pow]
  simp only [Option.bind_some, h2]

/-- What a call finds, as a state. -/
theorem frel_of {κ : Kap} {φ : Phi} {w : World} {objs : List PObj} (h1 : ∀ i, OR κ φ (tabOf objs) w.heap i (tabOf objs i)) (h2 : Bnd κ w) :
    FRel κ φ w { n := 0, R := fun _ => .bot, O := tabOf objs } { tmps := #[], defers := [] } := ⟨fun _ => .bot _, h1, h2, rfl, trivial⟩

theorem arg1 {κ : Kap} {φ : Phi} {O : Tab} {h : Heap} {vs : Array Value} {x : RV} (h3 : vs.size = [x].length) (h4 : ∀ (i : Nat) (y : RV) (v : Value), [x][i]? = some y → vs[i]? = some v → RVR κ φ O h y v) :
    ∃ v, vs = #[v] ∧ RVR κ φ O h x v := by
  have hs : vs.size = 1 := by simpa using h3
  refine ⟨vs[0], ?_, h4 0 x _ rfl (by simp [hs])⟩
  apply Array.ext
  · simpa using hs
  · intro i hi hi2; simp at hi2; subst hi2; rfl

def asciiB (s : List UInt8) : Bool := s.all fun b => Nat.ble b.toNat 127
theorem asciiB_spec {s : List UInt8} (h : asciiB s = true) (j : Nat) (b : UInt8) (hj : s[j]? = some b) : b.toNat < 128 := by
  have := List.all_eq_true.1 h b (List.mem_of_getElem? hj)
  have := Nat.le_of_ble_eq_true this
  omega

def fldRows (s : List UInt8) : List RV := (Lib.fields s).map fun l => .d (.str l)
theorem fields_c (s : List UInt8) (hs : s.length < 4294967281) (ha : asciiB s = true) :
    C Tryz.prog 286 [.d (.str s)] [] (fun r o => r = .sl 0 1 0 (Lib.fields s).length (some (Lib.fields s).length) ∧ o = [.rar 9 (fldRows s)]) := by
  intro κ φ w vs h1 h2 h3 h4
  obtain ⟨v, rfl, hv⟩ := arg1 h3 h4
  cases hv with
  | d hd =>
  cases hd
  refine (Tryz.strings_Fields ⟨s.toArray⟩ w (by simpa [ByteArray.size] using hs) (fun j b hj => asciiB_spec ha j b (by simpa using hj)) (space_is h2)).mono ?_
  rintro e w' ⟨rfl, rfl⟩
  have F := frel_of h1 h2
  obtain ⟨q1, q2, q3⟩ := F.alloc (i := 0) (p := .rar 9 (fldRows s)) (o := .cells ((Lib.fields s).map fun l => Value.string ⟨l.toArray⟩).toArray 9)
    (w' := w.alloc (.cells ((Lib.fields s).map fun l => Value.string ⟨l.toArray⟩).toArray 9)) rfl (by simp [tabOf])
    (fun M => ⟨_, _, (0, 0), setP_same _ _ _, setK_same _ _ _, heap_push_eq _ _, fzR00 _ _, by simp [fldRows], fun j x v hx hv => by
      simp only [fldRows, List.getElem?_map, Option.map_eq_some_iff] at hx
      obtain ⟨l, hl, rfl⟩ := hx
      simp only [Nat.zero_add, List.getElem?_toArray, List.getElem?_map, Option.map_eq_some_iff] at hv
      obtain ⟨l2, hl2, rfl⟩ := hv
      rw [hl] at hl2; injection hl2 with e; subst e
      exact ⟨.d (.str _), rfl⟩⟩)
  have et : setT (tabOf []) 0 (some (PObj.rar 9 (fldRows s))) = tabOf [.rar 9 (fldRows s)] := by
    funext i
    cases i with
    | zero => simp [setT, tabOf]
    | succ i => simp [setT, tabOf]
  rw [et] at q1 q2
  refine ⟨_, _, _, _, _, rfl, ⟨rfl, rfl⟩, ?_, q1.objs, q1.bnd, by simp, q3, q2.kp⟩
  exact .sl (setP_same _ _ _) (heap_push_eq _ _) (.inl rfl) (by simp) (Nat.le_refl _) (fun k e => by injection e) (fun e => by cases e)

def fldE : Ent := fun a o => match a, o with
  | [.d (.str s)], [] => some (.sl 0 1 0 (Lib.fields s).length (some (Lib.fields s).length), [.rar 9 (fldRows s)], [asciiB s, Nat.ble s.length 1000000])
  | _, _ => none
theorem fld_ent : EntOk Tryz.prog 286 fldE := by
  intro a o r o' c hg hc
  unfold fldE at hg
  split at hg
  · rename_i s
    simp only [Option.some.injEq, Prod.mk.injEq] at hg
    obtain ⟨rfl, rfl, rfl⟩ := hg
    have h1 := Nat.le_of_ble_eq_true (hc _ (by simp : Nat.ble s.length 1000000 ∈ [asciiB s, Nat.ble s.length 1000000]))
    exact fields_c s (by omega) (hc _ (by simp))
  · cases hg

def cmpE : DV → DV → Option (DV × List Bool)
  | .str s, .str t => some (.int .i64 (Lib.compareBytes s t), [])
  | _, _ => none
theorem cmp_ent : EntOk Tryz.prog 162 (e2 cmpE) := by
  refine e2_ok fun x x2 y c hg hc => ?_
  unfold cmpE at hg
  split at hg
  · rename_i s t
    simp only [Option.some.injEq, Prod.mk.injEq] at hg
    obtain ⟨rfl, rfl⟩ := hg
    refine C_flat (args := [.str s, .str t]) (us := [.string ⟨s.toArray⟩, .string ⟨t.toArray⟩]) (v := .int .i64 (Lib.compareBytes s t)) rfl rfl fun w => ?_
    refine (Tryz.strings_Compare ⟨s.toArray⟩ ⟨t.toArray⟩ w).mono ?_
    rintro e w' ⟨rfl, rfl⟩
    exact ⟨rfl, Below.refl _ _⟩
  · cases hg

def idxE : DV → DV → Option (DV × List Bool)
  | .str s, .int .u8 c => some (.int .i64 (Lib.indexByte s c.toNat.toUInt8), [])
  | _, _ => none
theorem idx_ent : EntOk Tryz.prog 283 (e2 idxE) := by
  refine e2_ok fun x x2 y c hg hc => ?_
  unfold idxE at hg
  split at hg
  · rename_i s b
    simp only [Option.some.injEq, Prod.mk.injEq] at hg
    obtain ⟨rfl, rfl⟩ := hg
    refine C_flat (args := [.str s, .int .u8 b]) (us := [.string ⟨s.toArray⟩, .int .u8 b]) (v := .int .i64 (Lib.indexByte s b.toNat.toUInt8)) rfl rfl fun w => ?_
    refine (Tryz.stringslite_IndexByte ⟨s.toArray⟩ b w).mono ?_
    rintro e w' ⟨rfl, rfl⟩
    exact ⟨rfl, Below.refl _ _⟩
  · cases hg

def cntE : DV → DV → Option (DV × List Bool)
  | .str s, .str [c] => some (.int .i64 (Lib.countByte s c), [])
  | _, _ => none
theorem cnt_ent : EntOk Tryz.prog 496 (e2 cntE) := by
  refine e2_ok fun x x2 y c hg hc => ?_
  unfold cntE at hg
  split at hg
  · rename_i s b
    simp only [Option.some.injEq, Prod.mk.injEq] at hg
    obtain ⟨rfl, rfl⟩ := hg
    refine C_flat (args := [.str s, .str [b]]) (us := [.string ⟨s.toArray⟩, .string ⟨#[b]⟩]) (v := .int .i64 (Lib.countByte s b)) rfl rfl fun w => ?_
    refine (Tryz.strings_Count_one ⟨s.toArray⟩ b w).mono ?_
    rintro e w' ⟨rfl, rfl⟩
    exact ⟨rfl, Below.refl _ _⟩
  · cases hg

def repE : DV → DV → Option (DV × List Bool)
  | .str s, .int .i64 c => some (.str (Lib.repeatL s c.toNat), [decide (0 ≤ c), decide (c ≤ 1099511627776), decide (s.length * c.toNat ≤ 140737488355328)])
  | _, _ => none
theorem rep_ent : EntOk Tryz.prog 94 (e2 repE) := by
  refine e2_ok fun x x2 y c hg hc => ?_
  unfold repE at hg
  split at hg
  · rename_i s n
    simp only [Option.some.injEq, Prod.mk.injEq] at hg
    obtain ⟨rfl, rfl⟩ := hg
    have h0 : 0 ≤ n := by simpa using hc (decide (0 ≤ n)) (by simp)
    have h1 : n ≤ 1099511627776 := by simpa using hc (decide (n ≤ 1099511627776)) (by simp)
    have h2 : s.length * n.toNat ≤ 140737488355328 := by simpa using hc (decide (s.length * n.toNat ≤ 140737488355328)) (by simp)
    refine C_flat (args := [.str s, .int .i64 n]) (us := [.string ⟨s.toArray⟩, .int .i64 n]) (v := .string ⟨(Lib.repeatL s n.toNat).toArray⟩) rfl rfl fun w => ?_
    have := Tryz.strings_Repeat ⟨s.toArray⟩ n.toNat w (by omega) h2
    rw [Int.toNat_of_nonneg h0] at this
    exact this
  · cases hg
end Go.Proofs.YtadndmmhpkmjeaaGreatDoor

/-
  strings.Builder for the closed machine: copyCheck and String by contracts; the other methods are run.
-/
namespace Go.Proofs.YtadndmmhpkmjeaaGreatDoor
open Go.RowKit Am
set_option maxRecDepth 100000

theorem bT_size : (Tryz.prog.info? 280).map (fun i => decide (i.size ≠ 0)) = some true := by kernel_rfl
theorem bT_lies : liesAt Tryz.prog Tryz.prog.depth 280 (2 / Tryz.prog.cellsOf 280) 0 280 1 = true := by kernel_rfl
theorem bT_lies2 : liesAt Tryz.prog Tryz.prog.depth 437 (2 / Tryz.prog.cellsOf 437) 0 280 1 = true := by kernel_rfl
/-- The types of which a Builder is the whole. -/
def isBT (T : Nat) : Bool := Nat.beq T 280 || Nat.beq T 437
theorem bT_any {T : Nat} (h : isBT T = true) : liesAt Tryz.prog Tryz.prog.depth T (2 / Tryz.prog.cellsOf T) 0 280 1 = true := by
  simp only [isBT, Bool.or_eq_true] at h
  rcases h with h | h
  · rw [nbE h]; exact bT_lies
  · rw [nbE h]; exact bT_lies2
theorem cellsU8 : Tryz.prog.cellsOf 5 = 1 := by kernel_rfl

set_option maxHeartbeats 1000000 in
theorem ccUsed (b : Nat) (w : World) (h0 : w.cell? ⟨b, 0, none⟩ = some (.pointer (some ⟨b, 0, none⟩))) :
    Calls Tryz.prog 280 #[.pointer (some ⟨b, 0, none⟩)] w fun e w' => e = .returned (.tuple #[]) ∧ w' = w := by
  obtain ⟨j, hj, _⟩ := Option.map_eq_some_iff.1 bT_size
  go_enter Tryz.func280, Tryz.ntmps280
  go_wp2
  rw [Lib.run_neq_ptr_same w _ Tryz.underlying278 hj]
  go_wp2
  go_end0
  exact ⟨rfl, rfl⟩

set_option maxHeartbeats 1000000 in
theorem ccFresh {T : Nat} (hT : isBT T = true) (b : Nat) (w : World) (h0 : w.cell? ⟨b, 0, none⟩ = some (.pointer none)) (hsh : w.shape? b = some (T, 2)) (hfz : w.frozen? ⟨b, 0, none⟩ = false) :
    Calls Tryz.prog 280 #[.pointer (some ⟨b, 0, none⟩)] w fun e w' => e = .returned (.tuple #[]) ∧ w' = w.setCell ⟨b, 0, none⟩ (.pointer (some ⟨b, 0, none⟩)) := by
  obtain ⟨j, hj, hjs⟩ := Option.map_eq_some_iff.1 bT_size
  go_enter Tryz.func280, Tryz.ntmps280
  go_wp2
  rw [Lib.run_to_unsafe w ⟨b, 0, none⟩ Tryz.underlying278 Tryz.underlying487 hj (by simpa using hjs) hsh (Nat.zero_lt_succ 1)]
  simp only [Result.andThen]
  rw [Oper.upon_value]
  go_wp2
  rw [run_callFunc_extern Tryz.func370 (by kernel_rfl) (by kernel_rfl) (by kernel_rfl) (e := Extern.AbiNoEscape.same) (by kernel_rfl)]
  rw [Lib.run_noEscape]
  simp only [Result.andThen]
  rw [Oper.upon_value]
  go_wp2
  rw [Lib.run_from_unsafe w ⟨b, 0, none⟩ Tryz.underlying487 Tryz.underlying278 hj hsh (bT_any hT)]
  simp only [Result.andThen]
  rw [Oper.upon_value]
  go_wp2
  go_end0
  exact ⟨rfl, rfl⟩

set_option maxHeartbeats 2000000 in
theorem strWalk {T : Nat} (b g cap n0 : Nat) (l : List UInt8) (p : Value) (w : World) (Q : World → Prop) (fz : Nat × Nat) (cur : Array Value) (hne : l ≠ []) (hcap : l.length ≤ cap) (h63 : l.length ≤ 9223372036854775807)
    (hb : w.heap[b]? = some (.cells #[p, .slice (some ⟨g, 0, none⟩) l.length cap] T (0, 0))) (hg : w.heap[g]? = some (.cells cur 5 fz)) (hsz : cur.size = n0) (hn0 : l.length ≤ n0)
    (hcell : ∀ (j : Nat) (y : UInt8), l[j]? = some y → w.cell? ((⟨g, 0, none⟩ : Addr).add j) = some (.int .u8 y.toNat)) (hQ : Q (w.drew.freeze ⟨g, 0, none⟩ l.length)) :
    Calls Tryz.prog 175 #[.pointer (some ⟨b, 0, none⟩)] w fun e w' => e = .returned (.string ⟨l.toArray⟩) ∧ Q w' := by
  have hpos : 0 < l.length := List.length_pos_iff.2 hne
  have c1 : w.drew.cell? ⟨b, 1, none⟩ = some (.slice (some ⟨g, 0, none⟩) l.length cap) := by
    have : w.drew.heap[b]? = some (.cells #[p, .slice (some ⟨g, 0, none⟩) l.length cap] T (0, 0)) := hb
    rw [Lib.cell_of_heap this]; rfl
  have hSD : (Builtin.unsafeSliceData_ #[198] 408 #[.slice (some ⟨g, 0, none⟩) l.length cap]).run Tryz.prog w.drew = .ok (.pointer (some ⟨g, 0, none⟩)) w.drew :=
    Lib.run_unsafeSliceData_row _ _ _ _ _ _ (by omega)
  have hUS : (Builtin.unsafeString_ #[408, 3] 9 #[.pointer (some ⟨g, 0, none⟩), .int .i64 l.length]).run Tryz.prog w.drew = .ok (.string ⟨l.toArray⟩) (w.drew.freeze ⟨g, 0, none⟩ l.length) :=
    Lib.run_unsafeString_row w.drew _ _ _ 5 Tryz.underlying408 cellsU8 g cur.size (by have hg' : w.drew.heap[g]? = some (.cells cur 5 fz) := hg; simp [World.shape?, hg']) l hne (by omega) h63 hcell
  have HQ := Lib.hid hQ
  clear hQ hcell hg hb hsz hn0 hcap h63 hne hpos
  go_enter Tryz.func175, Tryz.ntmps175
  go_wp2
  go_region
  all_goals (go_wp2; go_ret; exact ⟨rfl, HQ.out⟩)

set_option maxHeartbeats 2000000 in
theorem strNone {T : Nat} (b : Nat) (p : Value) (w : World) (Q : World → Prop) (hb : w.heap[b]? = some (.cells #[p, .slice none 0 0] T (0, 0))) (hQ : Q w.drew) :
    Calls Tryz.prog 175 #[.pointer (some ⟨b, 0, none⟩)] w fun e w' => e = .returned (.string ⟨#[]⟩) ∧ Q w' := by
  have hUS : ∀ W : World, (Builtin.unsafeString_ #[408, 3] 9 #[.pointer none, .int .i64 0]).run Tryz.prog W = .ok (.string .empty) W := fun W => Lib.run_unsafeString_none W _ _ _ none
  have c1 : w.drew.cell? ⟨b, 1, none⟩ = some (.slice none 0 0) := by
    have : w.drew.heap[b]? = some (.cells #[p, .slice none 0 0] T (0, 0)) := hb
    rw [Lib.cell_of_heap this]; rfl
  have hSD : (Builtin.unsafeSliceData_ #[198] 408 #[.slice none 0 0]).run Tryz.prog w.drew = .ok (.pointer none) w.drew := rfl
  have HQ := Lib.hid hQ
  clear hb hQ
  go_enter Tryz.func175, Tryz.ntmps175
  go_wp2
  go_region
  all_goals (go_wp2; go_ret; exact ⟨rfl, HQ.out⟩)

theorem two_cells {c : Array Value} (h : c.size = 2) : ∃ x y, c = #[x, y] := by
  refine ⟨c[0], c[1], ?_⟩
  apply Array.ext
  · simpa using h
  · intro i h1 h2
    have : i = 0 ∨ i = 1 := by simp at h2; omega
    rcases this with rfl | rfl <;> rfl

theorem tab_set0 (p q : PObj) (r : List PObj) : setT (tabOf (p :: r)) 0 (some q) = tabOf (q :: r) := by
  funext i
  cases i with
  | zero => simp [setT, tabOf]
  | succ i => simp [setT, tabOf]
theorem tab_set1 (p q q' : PObj) (r : List PObj) : setT (tabOf (p :: q :: r)) 1 (some q') = tabOf (p :: q' :: r) := by
  funext i
  match i with
  | 0 => simp [setT, tabOf]
  | 1 => simp [setT, tabOf]
  | i + 2 => simp [setT, tabOf]

theorem copy_c {T : Nat} (hT : isBT T = true) (x y : RV) (r : List PObj) (hx : x = .d .nilp ∨ x = .ptr 0 0) : C Tryz.prog 280 [.ptr 0 0] (.box T [x, y] :: r) (fun v o => v = .d (.tup []) ∧ o = .box T [.ptr 0 0, y] :: r) := by
  intro κ φ w vs h1 h2 h3 h4
  have hs : vs.size = 1 := by simpa using h3
  have e1 : vs[0]? = some vs[0] := by simp [show 0 < vs.size by omega]
  have r0 := h4 0 _ _ rfl e1
  have hvs : vs = #[vs[0]] := by
    apply Array.ext
    · simpa using hs
    · intro i hi hi2; simp at hi2; subst hi2; rfl
  rw [hvs]
  generalize vs[0] = v0 at r0
  clear e1 hvs
  cases r0 with
  | ptr hφ =>
  rename_i b
  have ho := h1 0
  have et : tabOf (PObj.box T [x, y] :: r) 0 = some (.box T [x, y]) := rfl
  rw [et] at ho
  obtain ⟨b', c, g1, g2, g3, g4, g5, g6⟩ := ho
  rw [g1] at hφ; injection hφ with hφ; subst hφ
  obtain ⟨c0, c1, rfl⟩ := two_cells (by simpa using g4)
  have q0 := g6 0 x c0 rfl rfl
  have q1 := g6 1 y c1 rfl rfl
  have F := frel_of h1 h2
  rcases hx with rfl | rfl
  · cases q0 with
    | d hr =>
    cases hr
    refine (ccFresh hT b' w (by rw [Lib.cell_of_heap g3]; rfl) (by simp [World.shape?, g3]) (Lib.frozen_of_heap g3 0)).mono ?_
    rintro e w' ⟨rfl, rfl⟩
    rw [setCell_row g3]
    obtain ⟨p1, p2, p3⟩ := F.write (i := 0) (p := .box T [.ptr 0 0, y]) (o := .cells #[.pointer (some ⟨b', 0, none⟩), c1] T (0, 0)) g2 g1
      (fun c ty fz hh => by rw [g3] at hh; injection hh with hh; injection hh with a1 a2 a3; subst a1; subst a2; exact ⟨_, _, rfl, rfl⟩) (fun n hn => by simp [PObj.len?] at hn)
      (fun M => ⟨b', _, g1, g2, row_heap g3, rfl, fun v hv => by
        simp at hv
        rcases hv with rfl | rfl
        · rfl
        · exact g5 _ (by simp), fun j x v hx hv => by
        match j, hx, hv with
        | 0, hx, hv => simp at hx hv; subst hx; subst hv; exact .ptr g1
        | 1, hx, hv => simp at hx hv; subst hx; subst hv; exact q1.mono M
        | j + 2, hx, hv => simp at hx⟩)
    have et2 : setT (tabOf (PObj.box T [.d .nilp, y] :: r)) 0 (some (.box T [.ptr 0 0, y])) = tabOf (.box T [.ptr 0 0, y] :: r) := tab_set0 _ _ _
    simp only [et2] at p1 p2
    exact ⟨_, _, _, κ, φ, rfl, ⟨rfl, rfl⟩, .d (.tup rfl (by simp)), p1.objs, p1.bnd, by simp, p3, p2.kp⟩
  · cases q0 with
    | ptr hp =>
    rename_i b2
    have : b2 = b' := by rw [g1] at hp; injection hp with hp; exact hp.symm
    subst this
    refine (ccUsed b2 w (by rw [Lib.cell_of_heap g3]; rfl)).mono ?_
    rintro e w' ⟨rfl, rfl⟩
    exact ⟨_, _, _, κ, φ, rfl, ⟨rfl, rfl⟩, .d (.tup rfl (by simp)), h1, h2, by simp, Fr.refl _ _, Kp.refl _ _⟩

def isB : DV → Bool
  | .int .u8 n => decide (0 ≤ n ∧ n < 256)
  | _ => false
theorem isB_spec {x : DV} (h : isB x = true) : x = .int .u8 (x.byte.toNat : Int) := by
  unfold isB at h
  split at h
  · rename_i n
    simp only [decide_eq_true_eq] at h
    simp only [DV.byte, DV.int.injEq, true_and]
    have : n.toNat < 256 := by omega
    rw [UInt8.toNat_ofNat_of_lt' (by simpa using this)]; omega
  · cases h
def isBR : RV → Bool
  | .d x => isB x
  | _ => false
def byteR : RV → UInt8
  | .d x => x.byte
  | _ => 0
theorem isBR_spec {x : RV} (h : isBR x = true) : x = .d (.int .u8 ((byteR x).toNat : Int)) := by
  unfold isBR at h
  split at h
  · rename_i y; simp only [byteR]; rw [← isB_spec h]
  · cases h

theorem str_c {T : Nat} (p : RV) (len : Nat) (cap : Option Nat) (cs : List RV) (r : List PObj) (hb : (cs.take len).all isBR = true) (hlen : len ≤ cs.length) (hne : 0 < len) (hbig : len ≤ 1099511627776) : C Tryz.prog 175 [.ptr 0 0] (.box T [p, .sl 1 1 0 len cap] :: .rar 5 cs :: r)
    (fun v o => v = .d (.str ((cs.take len).map byteR)) ∧ o = .box T [p, .sl 1 1 0 len cap] :: .gone :: r) := by
  intro κ φ w vs h1 h2 h3 h4
  obtain ⟨v0, rfl, r0⟩ := arg1 h3 h4
  cases r0 with
  | ptr hφ =>
  rename_i b
  have ho := h1 0
  have et : tabOf (PObj.box T [p, .sl 1 1 0 len cap] :: .rar 5 cs :: r) 0 = some (.box T [p, .sl 1 1 0 len cap]) := rfl
  rw [et] at ho
  obtain ⟨b', c, g1, g2, g3, g4, g5, g6⟩ := ho
  rw [g1] at hφ; injection hφ with hφ; subst hφ
  obtain ⟨c0, c1, rfl⟩ := two_cells (by simpa using g4)
  have q1 := g6 1 (.sl 1 1 0 len cap) c1 rfl rfl
  have ho1 := h1 1
  have et1 : tabOf (PObj.box T [p, .sl 1 1 0 len cap] :: .rar 5 cs :: r) 1 = some (.rar 5 cs) := rfl
  rw [et1] at ho1
  obtain ⟨g, cur, fz, k1, k2, k3, k4, k5⟩ := ho1
  cases q1 with
  | sl hp hb0 ho' hs hl hcc hnn =>
    rename_i g' o' capv c' ty' fz'
    have : g' = g := by rw [k1] at hp; injection hp with hp; exact hp.symm
    subst this
    have hoo : o' = 0 := by rcases ho' with h | h <;> omega
    subst hoo
    rw [k3] at hb0; injection hb0 with hb0; injection hb0 with a1 a2 a3; subst a1; subst a2; subst a3
    have hlm : ((cs.take len).map byteR).length = len := by simp; omega
    have F := frel_of h1 h2
    obtain ⟨k51, k53⟩ := k5
    have hcells : ∀ (j : Nat) (y : UInt8), ((cs.take len).map byteR)[j]? = some y → w.cell? ((⟨g', 0, none⟩ : Addr).add j) = some (.int .u8 y.toNat) := by
      intro j y hy
      have hj : j < len := by have := (List.getElem?_eq_some_iff.1 hy).1; omega
      have hx : cs[j]? = some cs[j] := by simp [show j < cs.length by omega]
      have hxt : (cs.take len)[j]? = some cs[j] := by rw [List.getElem?_take, if_pos hj]; exact hx
      have hB := List.all_eq_true.1 hb cs[j] (List.mem_of_getElem? hxt)
      have hcj : cur[j]? = some cur[j] := by simp [show j < cur.size by omega]
      have hd := (k53 j cs[j] cur[j] hx (by rw [Nat.zero_add]; exact hcj)).1
      rw [isBR_spec hB] at hd
      rw [add_at, Am.cell_at k3, Nat.zero_add, hcj]
      have hyy : y = byteR cs[j] := by rw [List.getElem?_map, hxt] at hy; simpa using hy.symm
      subst hyy
      generalize cur[j] = cv at hd
      cases hd with
      | d hd => cases hd; rfl
    have hw' : ∀ (k : Nat), k ≠ g' → (w.drew.freeze ⟨g', 0, none⟩ len).heap[k]? = w.heap[k]? := by
      intro k hk
      unfold World.freeze
      split
      · rfl
      · simp only [Array.getElem?_modify]
        rw [if_neg (fun e => hk e.symm)]; rfl
    have hwg : ∃ fz2, (w.drew.freeze ⟨g', 0, none⟩ len).heap[g']? = some (.cells cur 5 fz2) := by
      have k3' : w.drew.heap[g']? = some (.cells cur 5 fz) := k3
      unfold World.freeze
      split
      · exact ⟨_, k3'⟩
      · simp only [Array.getElem?_modify, k3']
        simp
    have hsz : (w.drew.freeze ⟨g', 0, none⟩ len).heap.size = w.heap.size := by unfold World.freeze; split <;> simp
    have hos : (w.drew.freeze ⟨g', 0, none⟩ len).os = w.os ∧ (w.drew.freeze ⟨g', 0, none⟩ len).output = w.output := by unfold World.freeze; split <;> exact ⟨rfl, rfl⟩
    refine (strWalk b' g' capv cur.size ((cs.take len).map byteR) c0 w (fun w' => w' = w.drew.freeze ⟨g', 0, none⟩ len) fz cur (by intro e; rw [e] at hlm; simp at hlm; omega) (by rw [hlm]; exact hl) (by rw [hlm]; omega) (by rw [hlm]; exact g3) k3 rfl (by rw [hlm]; omega) hcells (by rw [hlm])).mono ?_
    rintro e w' ⟨rfl, rfl⟩
    obtain ⟨fz2, hwg⟩ := hwg
    obtain ⟨p1, p2, p3⟩ := F.upd1 (i := 1) (p := .gone) (κ' := κ) (φ' := φ) (w' := w.drew.freeze ⟨g', 0, none⟩ len) (by omega) (fun _ h => h) (fun _ _ _ _ h => h) (fun _ _ h => h)
      (fun k _ hk _ => hw' k (fun e => by subst e; exact hk k2)) (fun _ _ => rfl) (fun _ => rfl)
      (fun k c ty fz hk => by
        by_cases e : k = g'
        · subst e; rw [k3] at hk; injection hk with hk; injection hk with a1 a2 a3; subst a1; subst a2; exact ⟨_, _, hwg, rfl⟩
        · exact ⟨c, fz, by rw [hw' k e]; exact hk, rfl⟩) (fun _ n hn => by simp [PObj.len?] at hn) (fun k hk => by rw [hsz]; exact h2.lt k hk) (fun _ => trivial) hos
    have et2 : setT (tabOf (PObj.box T [p, .sl 1 1 0 len cap] :: .rar 5 cs :: r)) 1 (some .gone) = tabOf (.box T [p, .sl 1 1 0 len cap] :: .gone :: r) := tab_set1 _ _ _ _
    simp only [et2] at p1 p2
    exact ⟨_, _, _, κ, φ, rfl, ⟨rfl, rfl⟩, .d (.str _), p1.objs, p1.bnd, by simp, p3, p2.kp⟩

theorem str0_c {T : Nat} (p : RV) (r : List PObj) : C Tryz.prog 175 [.ptr 0 0] (.box T [p, .d (.lst 0 [] true)] :: r)
    (fun v o => v = .d (.str []) ∧ o = .box T [p, .d (.lst 0 [] true)] :: r) := by
  intro κ φ w vs h1 h2 h3 h4
  have hs : vs.size = 1 := by simpa using h3
  have e1 : vs[0]? = some vs[0] := by simp [show 0 < vs.size by omega]
  have r0 := h4 0 _ _ rfl e1
  have hvs : vs = #[vs[0]] := by
    apply Array.ext
    · simpa using hs
    · intro i hi hi2; simp at hi2; subst hi2; rfl
  rw [hvs]
  generalize vs[0] = v0 at r0
  clear e1 hvs
  cases r0 with
  | ptr hφ =>
  rename_i b
  have ho := h1 0
  have et : tabOf (PObj.box T [p, .d (.lst 0 [] true)] :: r) 0 = some (.box T [p, .d (.lst 0 [] true)]) := rfl
  rw [et] at ho
  obtain ⟨b', c, g1, g2, g3, g4, g5, g6⟩ := ho
  rw [g1] at hφ; injection hφ with hφ; subst hφ
  obtain ⟨c0, c1, rfl⟩ := two_cells (by simpa using g4)
  have q1 := g6 1 (.d (.lst 0 [] true)) c1 rfl rfl
  cases q1 with
  | d hr =>
  have hc1 : c1 = .slice none 0 0 := by
    cases hr with
    | lst0 hf => have := hf rfl; rw [this.1, this.2 rfl]
    | lst _ _ hf _ _ _ _ => have := (hf rfl).2; omega
  subst hc1
  have F := frel_of h1 h2
  refine (strNone b' c0 w (fun w' => w' = w.drew) g3 rfl).mono ?_
  rintro e w' ⟨rfl, rfl⟩
  exact ⟨_, _, _, κ, φ, rfl, ⟨rfl, rfl⟩, .d (.str _), h1, ⟨h2.lt, h2.gl⟩, by simp, ⟨Nat.le_refl _, fun _ hb => ⟨hb, rfl⟩, fun _ _ hb => ⟨hb, rfl⟩, fun _ c _ fz hc => ⟨c, fz, hc, rfl⟩, rfl, rfl⟩, Kp.refl _ _⟩

def isPtrOr : RV → Bool
  | .d .nilp => true
  | .ptr 0 0 => true
  | _ => false
def copyE : Ent := fun a o => match a, o with
  | [.ptr 0 0], .box T [x, y] :: r => bif isBT T && isPtrOr x then some (.d (.tup []), .box T [.ptr 0 0, y] :: r, []) else none
  | _, _ => none
theorem copy_ent : EntOk Tryz.prog 280 copyE := by
  intro a o r o' c hg _
  unfold copyE at hg
  split at hg
  · rename_i T x y rr
    cases hb : (isBT T && isPtrOr x) with
    | false => rw [hb] at hg; simp at hg
    | true =>
      rw [hb] at hg; simp only [cond_true, Option.some.injEq, Prod.mk.injEq] at hg
      obtain ⟨rfl, rfl, rfl⟩ := hg
      simp only [Bool.and_eq_true] at hb
      refine copy_c hb.1 x y rr ?_
      have := hb.2
      unfold isPtrOr at this
      split at this
      · exact .inl rfl
      · exact .inr rfl
      · cases this
  · cases hg
def strE : Ent := fun a o => match a, o with
  | [.ptr 0 0], .box T [p, .sl 1 1 0 len cap] :: .rar E cs :: r => bif isBT T && Nat.beq E 5 then some (.d (.str ((cs.take len).map byteR)), .box T [p, .sl 1 1 0 len cap] :: .gone :: r, [(cs.take len).all isBR, Nat.ble len cs.length, Nat.ble 1 len, Nat.ble len 1099511627776]) else none
  | [.ptr 0 0], .box T [p, .d (.lst 0 [] true)] :: r => bif isBT T then some (.d (.str []), .box T [p, .d (.lst 0 [] true)] :: r, []) else none
  | _, _ => none
theorem str_ent : EntOk Tryz.prog 175 strE := by
  intro a o r o' c hg hc
  unfold strE at hg
  split at hg
  · rename_i T p len cap E cs rr
    cases hb : (isBT T && Nat.beq E 5) with
    | false => rw [hb] at hg; simp at hg
    | true =>
      rw [hb] at hg; simp only [cond_true, Option.some.injEq, Prod.mk.injEq] at hg
      obtain ⟨rfl, rfl, rfl⟩ := hg
      simp only [Bool.and_eq_true] at hb
      have := nbE hb.2; subst this
      simp only [List.mem_cons, List.mem_nil_iff, or_false, forall_eq_or_imp, forall_eq] at hc
      exact str_c p len cap cs rr hc.1 (Nat.le_of_ble_eq_true hc.2.1) (Nat.le_of_ble_eq_true hc.2.2.1) (Nat.le_of_ble_eq_true hc.2.2.2)
  · rename_i T p rr
    cases hb : isBT T with
    | false => rw [hb] at hg; simp at hg
    | true =>
      rw [hb] at hg; simp only [cond_true, Option.some.injEq, Prod.mk.injEq] at hg
      obtain ⟨rfl, rfl, rfl⟩ := hg
      exact str0_c p rr
  · cases hg
end Go.Proofs.YtadndmmhpkmjeaaGreatDoor

/-
  maps.Clone at map[int]string for the closed machine.
-/
namespace Go.Proofs.YtadndmmhpkmjeaaGreatDoor
open Go.RowKit Am
set_option maxRecDepth 100000

theorem eq_mapnil {P : Program} (w : World) (d : Nat) (t k e : TypeId) (p : Option Nat) (h : P.underlying t = some (.map k e)) : (Op.equalIn (d + 1) t (.map p) (.map none)).run P w = .ok p.isNone w := by
  cases p <;> simp [Op.equalIn, run_underlying h]
theorem run_eql_mapnil {P : Program} (w : World) (t k e : TypeId) (p : Option Nat) (h : P.underlying t = some (.map k e)) : (binOp .eql t (.map p) (.map none)).run P w = .ok (.bool p.isNone) w := by
  have h3 : (Op.equal t (.map p) (.map none)).run P w = .ok p.isNone w := eq_mapnil (P := P) w 9999 t k e p h
  simp only [binOp, Sem.run_bind, h3, Result.andThen_ok, Sem.run_pure]
theorem run_clone {P : Program} (w : World) {r : Nat} {es : Array MapEntry} {clock : Nat} (t : TypeId) (hb : w.heap[r]? = some (.map es clock)) :
    (Extern.MapsClone.clone #[.iface t (.map (some r))]).run P w = .ok (.iface t (.map (some w.heap.size))) (w.alloc (.map es clock)) := by
  have hg : (getObj r).run P w = .ok (.map es clock) w := by simp [getObj, Sem.run, hb]
  have e : Extern.MapsClone.clone #[.iface t (.map (some r))] = (getObj r >>= fun o => match o with
      | .map entries clock => (newObj (.map entries clock) >>= fun n => pure (.iface t (.map (some n))))
      | _ => stuck "maps.clone: a map expected") := rfl
  rw [e]
  simp only [Sem.run_bind, hg, Result.andThen_ok]
  rfl
theorem run_assert_map {P : Program} (w : World) (t xT k e : TypeId) (v : Value) (h : P.underlying t = some (.map k e)) : (Instr.typeAssert (.iface t v) xT t false).run P w = .ok v w := by
  simp [Instr.typeAssert, run_underlying h, go_sem, Result.andThen]

set_option maxHeartbeats 1000000 in
theorem cloneWalk (b : Nat) (es : Array MapEntry) (clock : Nat) (w : World) (hb : w.heap[b]? = some (.map es clock)) :
    Calls Tryz.prog 191 #[.map (some b)] w fun e w' => e = .returned (.map (some w.heap.size)) ∧ w' = w.alloc (.map es clock) := by
  have hq := fun w => run_eql_mapnil (P := Tryz.prog) w 121 _ _ (some b) Tryz.underlying121
  go_enter Tryz.func191, Tryz.ntmps191
  go_wp2
  rw [run_callFunc_extern Tryz.func297 (by kernel_rfl) (by kernel_rfl) (by kernel_rfl) (e := Extern.MapsClone.clone) (by kernel_rfl), run_clone w 121 hb]
  simp only [Result.andThen]
  rw [Oper.upon_value]
  go_wp2
  rw [run_assert_map _ 121 20 _ _ _ Tryz.underlying121]
  simp only [Result.andThen]
  rw [Oper.upon_value]
  go_wp2
  go_ret
  exact ⟨rfl, rfl⟩

theorem clone_c (es : List (DV × DV)) : C Tryz.prog 191 [.map 0] [.map es] (fun r o => r = .map 1 ∧ o = [.map es, .map es]) := by
  intro κ φ w vs h1 h2 h3 h4
  obtain ⟨v, rfl, hv⟩ := arg1 h3 h4
  cases hv with
  | map hφ =>
  rename_i b
  have ho := h1 0
  have et : tabOf [PObj.map es] 0 = some (.map es) := rfl
  rw [et] at ho
  obtain ⟨b', mes, clock, g1, g2, g3, g4, g5⟩ := ho
  have : b' = b := by rw [g1] at hφ; injection hφ
  subst this
  refine (cloneWalk b' mes clock w g3).mono ?_
  rintro e w' ⟨rfl, rfl⟩
  have F := frel_of h1 h2
  obtain ⟨q1, q2, q3⟩ := F.alloc (i := 1) (p := .map es) (o := .map mes clock) (w' := w.alloc (.map mes clock)) rfl (by simp [tabOf])
    (fun M => ⟨_, mes, clock, setP_same _ _ _, setK_same _ _ _, heap_push_eq _ _, g4, fun j x e hx he => by
      obtain ⟨k1, k2, k3⟩ := g5 j x e hx he
      exact ⟨k1.mono M.imm, k2.mono M.imm, k3⟩⟩)
  have et2 : setT (tabOf [PObj.map es]) 1 (some (.map es)) = tabOf [.map es, .map es] := by
    funext i
    match i with
    | 0 => simp [setT, tabOf]
    | 1 => simp [setT, tabOf]
    | i + 2 => simp [setT, tabOf]
  simp only [et2] at q1 q2
  exact ⟨_, _, _, _, _, rfl, ⟨rfl, rfl⟩, .map (setP_same _ _ _), q1.objs, q1.bnd, by simp, q3, q2.kp⟩

def cloE : Ent := fun a o => match a, o with
  | [.map 0], [.map es] => some (.map 1, [.map es, .map es], [])
  | _, _ => none
theorem clo_ent : EntOk Tryz.prog 191 cloE := by
  intro a o r o' c hg _
  unfold cloE at hg
  split at hg
  · rename_i es
    simp only [Option.some.injEq, Prod.mk.injEq] at hg
    obtain ⟨rfl, rfl, rfl⟩ := hg
    exact clone_c es
  · cases hg
set_option maxHeartbeats 1000000 in
theorem cloneWalk2 (b : Nat) (es : Array MapEntry) (clock : Nat) (w : World) (hb : w.heap[b]? = some (.map es clock)) :
    Calls Tryz.prog 274 #[.map (some b)] w fun e w' => e = .returned (.map (some w.heap.size)) ∧ w' = w.alloc (.map es clock) := by
  have hq := fun w => run_eql_mapnil (P := Tryz.prog) w 57 _ _ (some b) Tryz.underlying57
  go_enter Tryz.func274, Tryz.ntmps274
  go_wp2
  rw [run_callFunc_extern Tryz.func297 (by kernel_rfl) (by kernel_rfl) (by kernel_rfl) (e := Extern.MapsClone.clone) (by kernel_rfl), run_clone w 57 hb]
  simp only [Result.andThen]
  rw [Oper.upon_value]
  go_wp2
  rw [run_assert_map _ 57 20 _ _ _ Tryz.underlying57]
  simp only [Result.andThen]
  rw [Oper.upon_value]
  go_wp2
  go_ret
  exact ⟨rfl, rfl⟩

theorem clone_c2 (es : List (DV × DV)) : C Tryz.prog 274 [.map 0] [.map es] (fun r o => r = .map 1 ∧ o = [.map es, .map es]) := by
  intro κ φ w vs h1 h2 h3 h4
  obtain ⟨v, rfl, hv⟩ := arg1 h3 h4
  cases hv with
  | map hφ =>
  rename_i b
  have ho := h1 0
  have et : tabOf [PObj.map es] 0 = some (.map es) := rfl
  rw [et] at ho
  obtain ⟨b', mes, clock, g1, g2, g3, g4, g5⟩ := ho
  have : b' = b := by rw [g1] at hφ; injection hφ
  subst this
  refine (cloneWalk2 b' mes clock w g3).mono ?_
  rintro e w' ⟨rfl, rfl⟩
  have F := frel_of h1 h2
  obtain ⟨q1, q2, q3⟩ := F.alloc (i := 1) (p := .map es) (o := .map mes clock) (w' := w.alloc (.map mes clock)) rfl (by simp [tabOf])
    (fun M => ⟨_, mes, clock, setP_same _ _ _, setK_same _ _ _, heap_push_eq _ _, g4, fun j x e hx he => by
      obtain ⟨k1, k2, k3⟩ := g5 j x e hx he
      exact ⟨k1.mono M.imm, k2.mono M.imm, k3⟩⟩)
  have et2 : setT (tabOf [PObj.map es]) 1 (some (.map es)) = tabOf [.map es, .map es] := by
    funext i
    match i with
    | 0 => simp [setT, tabOf]
    | 1 => simp [setT, tabOf]
    | i + 2 => simp [setT, tabOf]
  simp only [et2] at q1 q2
  exact ⟨_, _, _, _, _, rfl, ⟨rfl, rfl⟩, .map (setP_same _ _ _), q1.objs, q1.bnd, by simp, q3, q2.kp⟩

theorem clo_ent2 : EntOk Tryz.prog 274 cloE := by
  intro a o r o' c hg _
  unfold cloE at hg
  split at hg
  · rename_i es
    simp only [Option.some.injEq, Prod.mk.injEq] at hg
    obtain ⟨rfl, rfl, rfl⟩ := hg
    exact clone_c2 es
  · cases hg
end Go.Proofs.YtadndmmhpkmjeaaGreatDoor
