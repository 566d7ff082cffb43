/-
  The walk of the reference's All: a row's record.
-/
import Derived.Test.YtljfolepmkcjlaaWAll
namespace Go.Proofs.Ytljfolepmkcjlaa
open Go.RowKit Plain
set_option maxRecDepth 100000

theorem lit_str (w : World) (x : UInt8) (v : Int) (hv : v = (x.toNat : Int)) :
    (convert 70 9 (.slice (some ⟨w.heap.size, 0, none⟩) 1 1)).run Try.prog (w.alloc (.cells #[.int .u8 v] 5)) = .ok (.string ⟨[x].toArray⟩) (w.alloc (.cells #[.int .u8 v] 5)) :=
  run_str_sl (Sl.lit_u8 w x v hv)

theorem str_eq {a b c : List UInt8} (h : c = a ++ b) : Value.string ((⟨a.toArray⟩ : ByteArray) ++ ⟨b.toArray⟩) = .string ⟨c.toArray⟩ := by rw [bytes_append, h]

set_option maxHeartbeats 1000000 in
theorem rall_any (A : Option Addr) (c : Nat) (l : List Val) (w : World) (hr : Row w A l) (h16 : l.length ≤ 16) (hk : ∀ v ∈ l, chk v = 0) (hw : ∀ v ∈ l, v.wf) :
    Calls Try.prog 82 #[.slice A l.length c] w fun e w' => e = .returned (.string ⟨(allL l).toArray⟩) ∧ Below w.heap.size w w' := by
  have h16' : (l.length : Int) ≤ 16 := by omega
  have h00 : (0 : Int) ≤ (l.length : Int) := by omega
  have hlit := lit_str w (UInt8.ofNat l.length) (l.length : Int) (by rw [UInt8.toNat_ofNat']; omega)
  have HR := Lib.hid hr
  have HK := Lib.hid hk
  have HWF := Lib.hid hw
  have H16 := Lib.hid h16
  have hB0 := (Below.refl _ w).alloc (Nat.le_refl _) (.cells #[.int .u8 (l.length : Int)] 5)
  clear hr hk hw h16
  go_enter Try.func82, Try.ntmps82
  go_wp2
  go_loopw [3, 4] (fun x i wr => ∃ k : Nat, i = .int .i64 (k : Int) ∧ k ≤ l.length ∧ x = .string ⟨(UInt8.ofNat l.length :: tagsL (l.take k)).toArray⟩ ∧ Below w.heap.size w wr) (fun _ i _ => l.length - (intOf i).toNat)
  case atStart => exact ⟨0, rfl, by omega, rfl, hB0⟩
  case round =>
    obtain ⟨k, rfl, hkl, rfl, hB⟩ := hrel
    clear hB0 hlit
    have hz := hB.size
    by_cases hk : k < l.length
    · obtain ⟨b, off, rfl, hbl, hcell⟩ := HR.out.at (by omega)
      obtain ⟨c0, c1, c2⟩ := hcell k hk
      have d0 : wr.cell? ⟨b, off + k * 3, none⟩ = _ := (hB.cell (p := ⟨b, off + k * 3, none⟩) hbl).trans c0
      have d1 : wr.cell? ⟨b, off + k * 3 + 1, none⟩ = _ := (hB.cell (p := ⟨b, off + k * 3 + 1, none⟩) hbl).trans c1
      have d2 : wr.cell? ⟨b, off + k * 3 + 2, none⟩ = _ := (hB.cell (p := ⟨b, off + k * 3 + 2, none⟩) hbl).trans c2
      clear c0 c1 c2 hcell
      have hkI : (k : Int) < (l.length : Int) := by omega
      have hv0 := HK.out l[k] (List.getElem_mem hk)
      have hwf := HWF.out l[k] (List.getElem_mem hk)
      have ht := Lib.hid (tagsL_take l k hk)
      have htl := tagsL_take_len l k H16.out
      have hpl := putN_length_le (tagN l[k])
      generalize l[k] = v at *
      have HTag := Lib.hid (fun w' => rtag_any v w' hv0 hwf)
      have HPut := Lib.hid (fun w' => rput_any (tagN v) w' (tagN_lt v hv0))
      clear hv0 hwf
      go_wp2_with (first
        | (go_at_call 95; refine (HTag.out _).mono ?_; rintro e w2 ⟨rfl, g1⟩)
        | (go_at_call 67; refine (HPut.out _).mono ?_; rintro e w3 ⟨rfl, g2⟩))
      go_roundw
      case rel => exact ⟨k + 1, by go_num, by omega, str_eq (by rw [ht.out, List.cons_append]), hB.trans ((g1.mono hz).trans (g2.mono (Nat.le_trans hz g1.size)))⟩
      case measure => simp [intOf]; omega
    · have hkI : ¬ (k : Int) < (l.length : Int) := by omega
      obtain rfl : k = l.length := by omega
      clear hk hkl
      rw [List.take_length]
      go_wp2
      go_loopw [3, 5] (fun x i wr => ∃ k : Nat, i = .int .i64 (k : Int) ∧ k ≤ l.length ∧ x = .string ⟨(UInt8.ofNat l.length :: tagsL l ++ bodiesL (l.take k)).toArray⟩ ∧ Below w.heap.size w wr) (fun _ i _ => l.length - (intOf i).toNat)
      case atStart => exact ⟨0, rfl, by omega, by simp [bodiesL], hB⟩
      case round =>
        obtain ⟨k, rfl, hkl, rfl, hB⟩ := hrel
        have hz := hB.size
        by_cases hk : k < l.length
        · obtain ⟨b, off, rfl, hbl, hcell⟩ := HR.out.at (by omega)
          obtain ⟨c0, c1, c2⟩ := hcell k hk
          have d0 : wr.cell? ⟨b, off + k * 3, none⟩ = _ := (hB.cell (p := ⟨b, off + k * 3, none⟩) hbl).trans c0
          have d1 : wr.cell? ⟨b, off + k * 3 + 1, none⟩ = _ := (hB.cell (p := ⟨b, off + k * 3 + 1, none⟩) hbl).trans c1
          have d2 : wr.cell? ⟨b, off + k * 3 + 2, none⟩ = _ := (hB.cell (p := ⟨b, off + k * 3 + 2, none⟩) hbl).trans c2
          clear c0 c1 c2 hcell
          have hkI : (k : Int) < (l.length : Int) := by omega
          have hv0 := HK.out l[k] (List.getElem_mem hk)
          have hwf := HWF.out l[k] (List.getElem_mem hk)
          have hbd := Lib.hid (bodiesL_take l k hk)
          have htl : (tagsL l).length ≤ 144 := by have := tagsL_take_len l l.length H16.out; rwa [List.take_length] at this
          have hbl2 := bodiesL_take_len l k H16.out HK.out
          have hyl := bodyL_length_le l[k] hv0
          have hsl := (chk_zero hv0).2.2.2
          generalize l[k] = v at *
          have hsp : v.k = 1 → v.s = [] := fun h1 => by
            rcases (chk_zero hv0).2.2.1 with h | h
            · omega
            · exact h
          have hFold := Lib.hid (fun w' => rfold_any v.n w' hwf.2.2.1 hwf.2.2.2)
          have HPut := Lib.hid (fun w' => rput_any (foldI v.n) w' (foldI_lt v.n hwf.2.2.1 hwf.2.2.2))
          have hpl := putN_length_le (foldI v.n)
          by_cases h1 : v.k = 1
          · have e1 : (v.k == 1) = true := by simpa using h1
            have hbody : bodyL v = putN (foldI v.n) ++ v.s := by rw [hsp h1]; simp [bodyL, h1]
            have HBd := Lib.hid hbody
            clear hv0 hwf hsp h1 hbody
            go_wp2_with (first
              | (go_at_call 96; refine (hFold.out _).mono ?_; rintro e w2 ⟨rfl, rfl⟩)
              | (go_at_call 67; refine (HPut.out _).mono ?_; rintro e w3 ⟨rfl, g2⟩; have d3 := (g2.cell (p := ⟨b, off + k * 3 + 2, none⟩) (Nat.lt_of_lt_of_le hbl hz)).trans d2))
            go_roundw
            case rel => exact ⟨k + 1, by go_num, by omega, by rw [bytes_append]; exact str_eq (by rw [hbd.out, HBd.out]; simp), hB.trans (g2.mono hz)⟩
            case measure => simp [intOf]; omega
          · have e1 : (v.k == 1) = false := by simpa using h1
            have hbody : bodyL v = v.s := by simp [bodyL, h1]
            have HBd := Lib.hid hbody
            clear hv0 hwf hsp h1 hbody
            go_wp2
            go_roundw
            case rel => exact ⟨k + 1, by go_num, by omega, str_eq (by rw [hbd.out, HBd.out]; simp), hB⟩
            case measure => simp [intOf]; omega
        · have hkI : ¬ (k : Int) < (l.length : Int) := by omega
          obtain rfl : k = l.length := by omega
          clear hk hkl
          go_wp2
          go_ret
          exact ⟨by first | rfl | (rw [List.take_length]; rfl), hB⟩
end Go.Proofs.Ytljfolepmkcjlaa
