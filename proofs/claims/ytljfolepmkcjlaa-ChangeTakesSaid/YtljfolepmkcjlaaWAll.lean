/-
  The walks of record.tag, body, all and of the reference's tag, All: a row's record.
-/
import Derived.Test.YtljfolepmkcjlaaWCheck
import Derived.Test.YtljfolepmkcjlaaWRNum
import Derived.Test.YtljfolepmkcjlaaBld
import Derived.Test.YtljfolepmkcjlaaRec2
namespace Go.Proofs.Ytljfolepmkcjlaa
open Go.RowKit Plain
set_option maxRecDepth 100000

theorem Bd.buf_ne {b c B C : Nat} {l m : List UInt8} {w : World} (h : Bd b l B w) (k : Bd c m C w) : ∀ g, bufOf w b = some g → g ≠ c := by
  obtain ⟨p, v, hb, ho, _⟩ := h.is
  obtain ⟨q, u, hc, _, _⟩ := k.is
  intro g hg
  rw [bufOf_eq hb] at hg
  rintro rfl
  exact Lib.ownBlock_ne ho hc (by decide) hg

theorem bytes_append (a b : List UInt8) : (⟨a.toArray⟩ : ByteArray) ++ ⟨b.toArray⟩ = ⟨(a ++ b).toArray⟩ := by
  apply ByteArray.ext
  rw [ByteArray.data_append]
  simp

/-- two builders side by side -/
def TwoB (b c B : Nat) (l m : List UInt8) (w : World) : Prop := Bd b l B w ∧ Bd c m B w ∧ b ≠ c ∧ ∀ g, bufOf w b = some g → bufOf w c ≠ some g
theorem TwoB.first {b c B : Nat} {l l' m : List UInt8} {w w' : World} (h : TwoB b c B l m w) (h1 : Bd b l' B w') (ht : Touch b w w') (hb : bufOf w' b = bufOf w b ∨ ∃ g, bufOf w' b = some g ∧ w.heap.size ≤ g) : TwoB b c B l' m w' := by
  obtain ⟨a1, a2, a3, a4⟩ := h
  obtain ⟨k1, k2⟩ := a2.other a3.symm (fun g hg => ⟨fun e => a4 g e hg, a2.buf_ne a1 g hg⟩) (a1.buf_ne a2) ht
  refine ⟨h1, k1, a3, fun g hg => ?_⟩
  rw [k2]
  rcases hb with hb | ⟨g', hb, hge⟩
  · rw [hb] at hg; exact a4 g hg
  · intro e
    have := (a2.buf_lt g e).2.1
    rw [hb] at hg
    injection hg with hg
    omega
theorem TwoB.second {b c B : Nat} {l m m' : List UInt8} {w w' : World} (h : TwoB b c B l m w) (h1 : Bd c m' B w') (ht : Touch c w w') (hb : bufOf w' c = bufOf w c ∨ ∃ g, bufOf w' c = some g ∧ w.heap.size ≤ g) : TwoB b c B l m' w' := by
  obtain ⟨a1, a2, a3, a4⟩ := h
  obtain ⟨k1, k2⟩ := a1.other a3 (fun g hg => ⟨a4 g hg, a1.buf_ne a2 g hg⟩) (a2.buf_ne a1) ht
  refine ⟨k1, h1, a3, fun g hg => ?_⟩
  rw [k2] at hg
  rcases hb with hb | ⟨g', hb, hge⟩
  · rw [hb]; exact a4 g hg
  · intro e
    have := (a1.buf_lt g hg).2.1
    rw [hb] at e
    injection e with e
    omega
theorem TwoB.below {b c B : Nat} {l m : List UInt8} {w w' : World} (h : TwoB b c B l m w) (hb : Below w.heap.size w w') : TwoB b c B l m w' := by
  obtain ⟨a1, a2, a3, a4⟩ := h
  obtain ⟨k1, e1⟩ := a1.below hb
  obtain ⟨k2, e2⟩ := a2.below hb
  exact ⟨k1, k2, a3, fun g hg => by rw [e2]; rw [e1] at hg; exact a4 g hg⟩

set_option maxHeartbeats 400000 in
theorem tag_any (v : Val) (w : World) (h : chk v = 0) :
    Calls Try.prog 91 #[.agg #[.int .u8 v.k, .int .i64 v.n, .string ⟨v.s.toArray⟩]] w fun e w' => e = .returned (.int .u64 (tagN v : Nat)) ∧ Below w.heap.size w w' := by
  obtain ⟨k, n, s⟩ := v
  have hl := (chk_zero h).2.2.2
  simp only at hl
  clear h
  have hl0 : (0 : Int) ≤ (s.length : Int) := by omega
  have hl1 : (s.length : Int) ≤ 1000 := by omega
  clear hl
  by_cases h1 : k = 1
  · subst h1
    go_enter Try.func91, Try.ntmps91
    go_wp2
    go_ret
    exact ⟨by simp [tagN], (Below.refl _ w).alloc (Nat.le_refl _) _⟩
  · by_cases h2 : k = 2
    · subst h2
      go_enter Try.func91, Try.ntmps91
      go_wp2
      go_ret
      exact ⟨by simp [tagN], (Below.refl _ w).alloc (Nat.le_refl _) _⟩
    · by_cases h3 : k = 3
      · subst h3
        go_enter Try.func91, Try.ntmps91
        go_wp2
        go_ret
        exact ⟨by simp [tagN], (Below.refl _ w).alloc (Nat.le_refl _) _⟩
      · have e1 : (k == 1) = false := by simpa using h1
        have e2 : (k == 2) = false := by simpa using h2
        have e3 : (k == 3) = false := by simpa using h3
        go_enter Try.func91, Try.ntmps91
        go_wp2
        go_ret
        exact ⟨by simp [tagN, h1, h2, h3], (Below.refl _ w).alloc (Nat.le_refl _) _⟩

set_option maxHeartbeats 400000 in
theorem rtag_any (v : Val) (w : World) (h : chk v = 0) (hw : v.wf) :
    Calls Try.prog 95 #[.agg #[.int .u8 v.k, .int .i64 v.n, .string ⟨v.s.toArray⟩]] w fun e w' => e = .returned (.int .u64 (tagN v : Nat)) ∧ Below w.heap.size w w' := by
  obtain ⟨k, n, s⟩ := v
  have hl := (chk_zero h).2.2.2
  have hk3 := (chk_zero h).1
  have hk0 := hw.1
  simp only at hl hk3 hk0
  clear h hw
  have hl0 : (0 : Int) ≤ (s.length : Int) := by omega
  have hl1 : (s.length : Int) ≤ 1000 := by omega
  clear hl
  have hk : k = 0 ∨ k = 1 ∨ k = 2 ∨ k = 3 := by omega
  clear hk3 hk0
  rcases hk with rfl | rfl | rfl | rfl
  all_goals
    go_enter Try.func95, Try.ntmps95
    go_wp2
    go_ret
    exact ⟨by simp [tagN], (Below.refl _ w).alloc (Nat.le_refl _) _⟩

set_option maxHeartbeats 400000 in
theorem body_any (v : Val) (w : World) (hw : v.wf) :
    Calls Try.prog 92 #[.agg #[.int .u8 v.k, .int .i64 v.n, .string ⟨v.s.toArray⟩]] w fun e w' => e = .returned (.string ⟨(bodyL v).toArray⟩) ∧ Below w.heap.size w w' := by
  obtain ⟨k, n, s⟩ := v
  obtain ⟨_, _, w1, w2⟩ := hw
  simp only at w1 w2
  by_cases h1 : k = 1
  · subst h1
    have HF := Lib.hid (fun w' => fold_any n w' w1 w2)
    have HP := Lib.hid (fun w' => put_any (foldI n) w' (foldI_lt n w1 w2))
    clear w1 w2
    go_enter Try.func92, Try.ntmps92
    go_wp2_with (first
      | (go_at_call 103; refine (HF.out _).mono ?_; rintro e w' ⟨rfl, rfl⟩)
      | (go_at_call 54; refine (HP.out _).mono ?_; rintro e w' ⟨rfl, hb⟩))
    go_ret
    exact ⟨by simp [bodyL], ((Below.refl _ w).alloc (Nat.le_refl _) _).trans (hb.mono (B' := w.heap.size) (by simp))⟩
  · have e1 : (k == 1) = false := by simpa using h1
    clear w1 w2
    go_enter Try.func92, Try.ntmps92
    go_wp2
    go_ret
    exact ⟨by simp [bodyL, h1], (Below.refl _ w).alloc (Nat.le_refl _) _⟩

set_option maxHeartbeats 1000000 in
theorem all_any (A : Option Addr) (c : Nat) (l : List Val) (w : World) (hr : Row w A l) (h16 : l.length ≤ 16) (hk : ∀ v ∈ l, chk v = 0) (hw : ∀ v ∈ l, v.wf) :
    Calls Try.prog 77 #[.slice A l.length c] w fun e w' => e = .returned (.string ⟨(allL l).toArray⟩) ∧ Below w.heap.size w w' := by
  have hb1 := Bd.new w w.heap.size (Nat.le_refl _)
  have hb2 := Bd.new (w.alloc (.cells #[.pointer none, .slice none 0 0] 72)) w.heap.size (by simp)
  obtain ⟨hb1', hbf⟩ := hb1.below ((Below.refl _ _).alloc (Nat.le_refl _) (.cells #[.pointer none, .slice none 0 0] 72))
  have hsz : (w.alloc (.cells #[.pointer none, .slice none 0 0] 72)).heap.size = w.heap.size + 1 := by simp
  rw [hsz] at hb2
  have hT : TwoB w.heap.size (w.heap.size + 1) w.heap.size [] [] ((w.alloc (.cells #[.pointer none, .slice none 0 0] 72)).alloc (.cells #[.pointer none, .slice none 0 0] 72)) :=
    ⟨hb1', hb2, by omega, fun g hg => by rw [hbf, bufOf_new] at hg; cases hg⟩
  have HT := Lib.hid hT
  have HW0 := Lib.hid (wbyte_any w.heap.size [] w.heap.size (UInt8.ofNat l.length) ((l.length : Int)) (by rw [UInt8.toNat_ofNat']; omega) _ hT.1 (by simp))
  have h16' : (l.length : Int) ≤ 16 := by omega
  have h00 : (0 : Int) ≤ (l.length : Int) := by omega
  have HR := Lib.hid hr
  have HK := Lib.hid hk
  have HWF := Lib.hid hw
  have H16 := Lib.hid h16
  clear hb1 hb2 hb1' hbf hsz hT hr hk hw h16
  go_enter Try.func77, Try.ntmps77
  go_wp2_with (go_at_call 86; refine HW0.out.mono ?_; rintro e w1 ⟨rfl, h1, h2, h3⟩)
  have hT1 := HT.out.first h1 h2 h3
  have hB1 : Below w.heap.size w w1 := h2.below HT.out.1 (((Below.refl _ w).alloc (Nat.le_refl _) _).alloc (by simp) _)
  clear h1 h2 h3 HW0
  go_loopw [13] (fun i wr => ∃ k : Nat, i = .int .i64 (k : Int) ∧ k ≤ l.length ∧ TwoB w.heap.size (w.heap.size + 1) w.heap.size (UInt8.ofNat l.length :: tagsL (l.take k)) (bodiesL (l.take k)) wr ∧ Below w.heap.size w wr) (fun i _ => l.length - (intOf i).toNat)
  case atStart => exact ⟨0, rfl, by omega, hT1, hB1⟩
  case round =>
    obtain ⟨k, rfl, hkl, hTT, hB⟩ := hrel
    clear hT1 hB1
    have hz := hB.size
    by_cases hk : k < l.length
    · obtain ⟨b, off, rfl, hbl, hcell⟩ := HR.out.at (by omega)
      obtain ⟨c0, c1, c2⟩ := hcell k hk
      have d0 : wr.cell? ⟨b, off + k * 3, none⟩ = _ := (hB.cell (p := ⟨b, off + k * 3, none⟩) hbl).trans c0
      have d1 : wr.cell? ⟨b, off + k * 3 + 1, none⟩ = _ := (hB.cell (p := ⟨b, off + k * 3 + 1, none⟩) hbl).trans c1
      have d2 : wr.cell? ⟨b, off + k * 3 + 2, none⟩ = _ := (hB.cell (p := ⟨b, off + k * 3 + 2, none⟩) hbl).trans c2
      clear c0 c1 c2 hcell
      have hkI : (k : Int) < (l.length : Int) := by omega
      have hv0 := HK.out l[k] (List.getElem_mem hk)
      have hwf := HWF.out l[k] (List.getElem_mem hk)
      have ht := Lib.hid (tagsL_take l k hk)
      have hbd := Lib.hid (bodiesL_take l k hk)
      have htl := tagsL_take_len l k H16.out
      have hbl2 := bodiesL_take_len l k H16.out HK.out
      have hpl := putN_length_le (tagN l[k])
      have hyl := bodyL_length_le l[k] hv0
      generalize l[k] = v at *
      have HTag := Lib.hid (fun w' => tag_any v w' hv0)
      have HPut := Lib.hid (fun w' => put_any (tagN v) w' (tagN_lt v hv0))
      have HBody := Lib.hid (fun w' => body_any v w' hwf)
      have HTT := Lib.hid hTT
      have HL := Lib.hid (And.intro htl (And.intro hbl2 (And.intro hpl hyl)))
      clear hv0 hwf htl hbl2 hpl hyl hTT
      go_wp2_with (first
        | (go_at_call 91; refine (HTag.out _).mono ?_; rintro e w2 ⟨rfl, g1⟩)
        | (go_at_call 54; refine (HPut.out _).mono ?_; rintro e w3 ⟨rfl, g2⟩))
      have hs1 : wr.heap.size + 1 ≤ w2.heap.size := by have := g1.size; simpa using this
      have g12 : Below (wr.heap.size + 1) (wr.alloc (.cells #[.int .u8 v.k, .int .i64 v.n, .string ⟨v.s.toArray⟩] 49)) w3 := (g1.mono (by simp)).trans (g2.mono hs1)
      have hb3 : Below wr.heap.size wr w3 := ((Below.refl _ wr).alloc (Nat.le_refl _) _).trans (g12.mono (by omega))
      have hT3 := HTT.out.below hb3
      have hbuf3 := (HTT.out.1.below hb3).2
      have hx3 : w3.heap[wr.heap.size]? = some (.cells #[.int .u8 v.k, .int .i64 v.n, .string ⟨v.s.toArray⟩] 49 (0, 0)) := (g12.block _ (by omega)).trans (heap_alloc_new wr _)
      have hlt3 : wr.heap.size < w3.heap.size := by have := g12.size; simp at this; omega
      have hbl1 := HTT.out.1.buf_lt
      have hne1 : wr.heap.size ≠ w.heap.size := by have := HTT.out.1.lt; omega
      clear g1 g2 g12 d0 d1 d2
      refine (wstr_any w.heap.size _ w.heap.size _ _ hT3.1 (by have := HL.out; simp; omega)).mono ?_
      rintro e w4 ⟨rfl, k1, k2, k3⟩
      have hT4 := hT3.first k1 k2 k3
      have hx4 : w4.heap[wr.heap.size]? = some (.cells #[.int .u8 v.k, .int .i64 v.n, .string ⟨v.s.toArray⟩] 49 (0, 0)) := (k2.block _ hlt3 hne1 (fun e => by
        rw [hbuf3] at e
        have := (hbl1 _ e.symm).2.1
        omega)).trans hx3
      have hb4 : Below w.heap.size w w4 := k2.below hT3.1 (hB.trans (hb3.mono hz))
      have f0 : w4.cell? ⟨wr.heap.size, 0, none⟩ = some (.int .u8 v.k) := by rw [Lib.cell_of_heap hx4]; rfl
      have f1 : w4.cell? ⟨wr.heap.size, 1, none⟩ = some (.int .i64 v.n) := by rw [Lib.cell_of_heap hx4]; rfl
      have f2 : w4.cell? ⟨wr.heap.size, 2, none⟩ = some (.string ⟨v.s.toArray⟩) := by rw [Lib.cell_of_heap hx4]; rfl
      have HT4 := Lib.hid hT4
      have HB4 := Lib.hid hb4
      clear hT3 hbuf3 hx3 hlt3 hbl1 hne1 k1 k2 k3 hx4 hT4 hb4 hb3
      go_wp2_with (go_at_call 92; refine (HBody.out _).mono ?_; rintro e w5 ⟨rfl, g3⟩)
      have hT5 := HT4.out.below g3
      have hb5 : Below w.heap.size w w5 := HB4.out.trans (g3.mono HB4.out.size)
      refine (wstr_any (w.heap.size + 1) _ w.heap.size _ _ hT5.2.1 (by have := HL.out; simp; omega)).mono ?_
      rintro e w6 ⟨rfl, k1, k2, k3⟩
      have hT6 := hT5.second k1 k2 k3
      have hb6 : Below w.heap.size w w6 := k2.below hT5.2.1 hb5
      have HT6 := Lib.hid hT6
      have HB6 := Lib.hid hb6
      clear hT5 hb5 g3 k1 k2 k3 hT6 hb6 f0 f1 f2
      go_wp2
      go_roundw
      case rel => exact ⟨k + 1, by go_num, by omega, by rw [ht.out, hbd.out]; exact HT6.out, HB6.out⟩
      case measure => simp [intOf]; omega
    · have hkI : ¬ (k : Int) < (l.length : Int) := by omega
      have hkn : k = l.length := by omega
      have HKN := Lib.hid hkn
      have hT := hTT
      rw [hkn, List.take_length] at hT
      have HT := Lib.hid hT
      clear hTT hkn hk hT
      go_wp2_with fail
      refine (bstr_any _ _ _ _ HT.out.1).mono ?_
      rintro e w2 ⟨rfl, m1⟩
      obtain ⟨a1, a2, a3, a4⟩ := HT.out
      obtain ⟨k1, k2⟩ := a2.marked (fun g hg e => a4 g e hg) (a1.buf_ne a2) m1
      have hb2 := m1.below a1 hB
      have HK1 := Lib.hid k1
      have HB2 := Lib.hid hb2
      clear a1 a2 a3 a4 k1 k2 hb2 m1
      go_wp2_with fail
      refine (bstr_any _ _ _ _ HK1.out).mono ?_
      rintro e w3 ⟨rfl, m2⟩
      have hb3 := m2.below HK1.out HB2.out
      clear m2
      have ht1 : (tagsL l).length ≤ 144 := by have := tagsL_take_len l l.length H16.out; rwa [List.take_length] at this
      have ht2 : (bodiesL l).length ≤ 16000 := by have := bodiesL_take_len l l.length H16.out HK.out; rwa [List.take_length] at this
      go_wp2
      go_ret
      refine ⟨?_, hb3⟩
      simp only [allL, ← List.cons_append]
      rw [← bytes_append]
      rfl
end Go.Proofs.Ytljfolepmkcjlaa
