/-
  The walks of record.check and counterfoilref09.Check over any row.
-/
import Derived.Test.YtljfolepmkcjlaaMem
import Derived.Test.YtljfolepmkcjlaaWVal
namespace Go.Proofs.Ytljfolepmkcjlaa
open Go.RowKit Plain

/-- A row's cells. -/
def rowCells (l : List Val) : List Value := l.flatMap fun v => [.int .u8 v.k, .int .i64 v.n, .string ⟨v.s.toArray⟩]

theorem rowCells_length (l : List Val) : (rowCells l).length = l.length * 3 := by
  induction l with
  | nil => rfl
  | cons v r ih => simp [rowCells] at *; omega
theorem rowCells_append (a b : List Val) : rowCells (a ++ b) = rowCells a ++ rowCells b := by simp [rowCells]
theorem rowCells_get (l : List Val) (k : Nat) (hk : k < l.length) : (rowCells l)[k * 3]? = some (.int .u8 l[k].k) ∧ (rowCells l)[k * 3 + 1]? = some (.int .i64 l[k].n) ∧ (rowCells l)[k * 3 + 2]? = some (.string ⟨l[k].s.toArray⟩) := by
  have e : rowCells l = rowCells (l.take k) ++ (rowCells [l[k]] ++ rowCells (l.drop (k + 1))) := by
    rw [← rowCells_append, ← rowCells_append, List.singleton_append, ← List.drop_eq_getElem_cons hk, List.take_append_drop]
  have hl : (rowCells (l.take k)).length = k * 3 := by rw [rowCells_length, List.length_take]; omega
  rw [e]
  refine ⟨?_, ?_, ?_⟩ <;> rw [List.getElem?_append_right (by omega), hl] <;> simp [rowCells]

/-- the slice '.slice A _ _' is the row l -/
def Row (w : World) (A : Option Addr) (l : List Val) : Prop := Sl w 3 A l.length (rowCells l)

theorem Row.at {w : World} {A : Option Addr} {l : List Val} (h : Row w A l) (h0 : 0 < l.length) : ∃ b off, A = some ⟨b, off, none⟩ ∧ b < w.heap.size ∧ ∀ k (hk : k < l.length), w.cell? ⟨b, off + k * 3, none⟩ = some (.int .u8 l[k].k) ∧ w.cell? ⟨b, off + k * 3 + 1, none⟩ = some (.int .i64 l[k].n) ∧ w.cell? ⟨b, off + k * 3 + 2, none⟩ = some (.string ⟨l[k].s.toArray⟩) := by
  obtain ⟨b, off, e, hc⟩ := h.2 (by omega)
  have key : ∀ k (hk : k < l.length), w.cell? ⟨b, off + k * 3, none⟩ = some (.int .u8 l[k].k) ∧ w.cell? ⟨b, off + k * 3 + 1, none⟩ = some (.int .i64 l[k].n) ∧ w.cell? ⟨b, off + k * 3 + 2, none⟩ = some (.string ⟨l[k].s.toArray⟩) := by
    intro k hk
    obtain ⟨g1, g2, g3⟩ := rowCells_get l k hk
    exact ⟨hc _ _ g1, hc _ _ g2, hc _ _ g3⟩
  exact ⟨b, off, e, World.block_lt_of_cell? w _ (key 0 h0).1, key⟩
theorem Row.below {w w' : World} {A : Option Addr} {l : List Val} {B : Nat} (h : Row w A l) (hb : Below B w w') (hB : w.heap.size ≤ B) : Row w' A l := Sl.below h hb hB

def ChkRel (l : List Val) (k : Nat) : Prop := k ≤ l.length ∧ chkAll l = chkAll (l.drop k)
theorem ChkRel.bad {l : List Val} {k : Nat} (h : ChkRel l k) (hk : k < l.length) (hc : chk l[k] ≠ 0) : chkAll l = chk l[k] := by
  rw [h.2, List.drop_eq_getElem_cons hk]; simp [chkAll, hc]
theorem ChkRel.good {l : List Val} {k : Nat} (h : ChkRel l k) (hk : k < l.length) (hc : chk l[k] = 0) : ChkRel l (k + 1) := by
  refine ⟨hk, ?_⟩
  rw [h.2, List.drop_eq_getElem_cons hk]; simp [chkAll, hc]
theorem ChkRel.fin {l : List Val} {k : Nat} (h : ChkRel l k) (hk : ¬ k < l.length) : chkAll l = 0 := by
  have : k = l.length := by have := h.1; omega
  rw [h.2, this, List.drop_length]; rfl

set_option maxHeartbeats 400000 in
theorem rrow_any (A : Option Addr) (c : Nat) (l : List Val) (w : World) (hr : Row w A l) (hl : l.length ≤ 65536) :
    Calls Try.prog 81 #[.slice A l.length c] w fun e w' => e = .returned (.int .i64 (chkRow l)) ∧ Below w.heap.size w w' := by
  by_cases h16 : 16 < l.length
  · have hfin := Lib.hid (show chkRow l = 90 by unfold chkRow; rw [if_pos h16])
    have h16' : (16 : Int) < (l.length : Int) := by omega
    go_enter Try.func81, Try.ntmps81
    go_wp2
    go_ret
    exact ⟨ret_int (by rw [hfin.out]), Below.refl _ _⟩
  · have hfin := Lib.hid (show chkRow l = chkAll l by unfold chkRow; rw [if_neg h16])
    have h16' : (l.length : Int) ≤ 16 := by omega
    have h00 : (0 : Int) ≤ (l.length : Int) := by omega
    have HR := Lib.hid hr
    go_enter Try.func81, Try.ntmps81
    clear hl hr h16
    go_wp2
    go_loopw [3] (fun i wr => ∃ k : Nat, i = .int .i64 (k : Int) ∧ ChkRel l k ∧ Below w.heap.size w wr) (fun i _ => l.length - (intOf i).toNat)
    case atStart => exact ⟨0, rfl, ⟨by omega, rfl⟩, Below.refl _ _⟩
    case round =>
      obtain ⟨k, rfl, hC, hB⟩ := hrel
      by_cases hk : k < l.length
      · obtain ⟨b, off, rfl, hbl, hcell⟩ := HR.out.at (by omega)
        obtain ⟨c0, c1, c2⟩ := hcell k hk
        have d0 : wr.cell? ⟨b, off + k * 3, none⟩ = _ := (hB.cell (p := ⟨b, off + k * 3, none⟩) hbl).trans c0
        have d1 : wr.cell? ⟨b, off + k * 3 + 1, none⟩ = _ := (hB.cell (p := ⟨b, off + k * 3 + 1, none⟩) hbl).trans c1
        have d2 : wr.cell? ⟨b, off + k * 3 + 2, none⟩ = _ := (hB.cell (p := ⟨b, off + k * 3 + 2, none⟩) hbl).trans c2
        clear c0 c1 c2 hcell
        have hkI : (k : Int) < (l.length : Int) := by omega
        have hz := hB.size
        obtain ⟨v, hv⟩ : ∃ v, l[k] = v := ⟨_, rfl⟩
        rw [hv] at d0 d1 d2
        by_cases hc : chk v = 0
        · have hn := Lib.hid (hC.good hk (by rw [hv]; exact hc))
          have hcc : ∀ w', Calls Try.prog 94 #[.agg #[.int .u8 v.k, .int .i64 v.n, .string ⟨v.s.toArray⟩]] w' fun e w'' => e = .returned (.int .i64 0) ∧ Below w'.heap.size w' w'' := fun w' => by
            have := rcheck_any v.k v.n v.s w'
            rwa [show chk ⟨v.k, v.n, v.s⟩ = 0 from hc] at this
          have HC := Lib.hid hcc
          clear hcc hC hv hc
          go_wp2_with (go_at_call 94; refine (HC.out _).mono ?_; rintro e w2 ⟨rfl, hb⟩)
          go_roundw
          case rel => exact ⟨k + 1, by go_num, hn.out, hB.trans (hb.mono hz)⟩
          case measure => simp [intOf]; omega
        · have hn := Lib.hid (hC.bad hk (by rw [hv]; exact hc))
          have hne : (chk v != 0) = true := by rw [bne_iff_ne]; exact hc
          have HC := Lib.hid (fun w' => rcheck_any v.k v.n v.s w')
          have HV := Lib.hid hv
          have e : (⟨v.k, v.n, v.s⟩ : Val) = v := rfl
          rw [e] at HC
          clear hC hv hc e
          generalize hq : chk v = q at *
          have HQ := Lib.hid hq
          clear hq
          go_wp2_with (go_at_call 94; refine (HC.out _).mono ?_; rintro e w2 ⟨rfl, hb⟩)
          go_ret
          exact ⟨ret_int (by rw [hfin.out, hn.out, HV.out, HQ.out]), hB.trans (hb.mono hz)⟩
      · have hn := Lib.hid (hC.fin hk)
        have hkI : ¬ (k : Int) < (l.length : Int) := by omega
        clear hC hk
        go_wp2
        go_ret
        exact ⟨ret_int (by rw [hfin.out, hn.out]), hB⟩

set_option maxHeartbeats 400000 in
theorem crow_any (A : Option Addr) (c : Nat) (l : List Val) (w : World) (hr : Row w A l) (hl : l.length ≤ 65536) :
    Calls Try.prog 76 #[.slice A l.length c] w fun e w' => e = .returned (.int .i64 (chkRow l)) ∧ Below w.heap.size w w' := by
  by_cases h16 : 16 < l.length
  · have hfin := Lib.hid (show chkRow l = 90 by unfold chkRow; rw [if_pos h16])
    have h16' : (16 : Int) < (l.length : Int) := by omega
    go_enter Try.func76, Try.ntmps76
    go_wp2
    go_ret
    exact ⟨ret_int (by rw [hfin.out]), Below.refl _ _⟩
  · have hfin := Lib.hid (show chkRow l = chkAll l by unfold chkRow; rw [if_neg h16])
    have h16' : (l.length : Int) ≤ 16 := by omega
    have h00 : (0 : Int) ≤ (l.length : Int) := by omega
    have HR := Lib.hid hr
    go_enter Try.func76, Try.ntmps76
    clear hl hr h16
    go_wp2
    go_loopw [11] (fun i wr => ∃ k : Nat, i = .int .i64 (k : Int) ∧ ChkRel l k ∧ Below w.heap.size w wr) (fun i _ => l.length - (intOf i).toNat)
    case atStart => exact ⟨0, rfl, ⟨by omega, rfl⟩, Below.refl _ _⟩
    case round =>
      obtain ⟨k, rfl, hC, hB⟩ := hrel
      by_cases hk : k < l.length
      · obtain ⟨b, off, rfl, hbl, hcell⟩ := HR.out.at (by omega)
        obtain ⟨c0, c1, c2⟩ := hcell k hk
        have d0 : wr.cell? ⟨b, off + k * 3, none⟩ = _ := (hB.cell (p := ⟨b, off + k * 3, none⟩) hbl).trans c0
        have d1 : wr.cell? ⟨b, off + k * 3 + 1, none⟩ = _ := (hB.cell (p := ⟨b, off + k * 3 + 1, none⟩) hbl).trans c1
        have d2 : wr.cell? ⟨b, off + k * 3 + 2, none⟩ = _ := (hB.cell (p := ⟨b, off + k * 3 + 2, none⟩) hbl).trans c2
        clear c0 c1 c2 hcell
        have hkI : (k : Int) < (l.length : Int) := by omega
        have hz := hB.size
        obtain ⟨v, hv⟩ : ∃ v, l[k] = v := ⟨_, rfl⟩
        rw [hv] at d0 d1 d2
        by_cases hc : chk v = 0
        · have hn := Lib.hid (hC.good hk (by rw [hv]; exact hc))
          have hcc : ∀ w', Calls Try.prog 90 #[.agg #[.int .u8 v.k, .int .i64 v.n, .string ⟨v.s.toArray⟩]] w' fun e w'' => e = .returned (.int .i64 0) ∧ Below w'.heap.size w' w'' := fun w' => by
            have := vcheck_any v.k v.n v.s w'
            rwa [show chk ⟨v.k, v.n, v.s⟩ = 0 from hc] at this
          have HC := Lib.hid hcc
          clear hcc hC hv hc
          go_wp2_with (go_at_call 90; refine (HC.out _).mono ?_; rintro e w2 ⟨rfl, hb⟩)
          go_roundw
          case rel => exact ⟨k + 1, by go_num, hn.out, (hB.alloc hz _).trans (hb.mono (by simp; omega))⟩
          case measure => simp [intOf]; omega
        · have hn := Lib.hid (hC.bad hk (by rw [hv]; exact hc))
          have hne : (chk v != 0) = true := by rw [bne_iff_ne]; exact hc
          have HC := Lib.hid (fun w' => vcheck_any v.k v.n v.s w')
          have HV := Lib.hid hv
          have e : (⟨v.k, v.n, v.s⟩ : Val) = v := rfl
          rw [e] at HC
          clear hC hv hc e
          generalize hq : chk v = q at *
          have HQ := Lib.hid hq
          clear hq
          go_wp2_with (go_at_call 90; refine (HC.out _).mono ?_; rintro e w2 ⟨rfl, hb⟩)
          go_ret
          exact ⟨ret_int (by rw [hfin.out, hn.out, HV.out, HQ.out]), (hB.alloc hz _).trans (hb.mono (by simp; omega))⟩
      · have hn := Lib.hid (hC.fin hk)
        have hkI : ¬ (k : Int) < (l.length : Int) := by omega
        clear hC hk
        go_wp2
        go_ret
        exact ⟨ret_int (by rw [hfin.out, hn.out]), hB⟩
end Go.Proofs.Ytljfolepmkcjlaa
