/-
  Texts that the claim leans on, one behind the other, part 2.
-/
import Derived.Test.YtljfolepmkcjlaaXk1
import Derived.Deep.Cut
import Derived.Deep.Onto

/-
  The walk of record.Take.
-/
namespace Go.Proofs.Ytljfolepmkcjlaa
open Go.RowKit Plain
set_option maxRecDepth 100000

set_option maxHeartbeats 1000000 in
theorem tk_main (c : UInt8) (r : Bs) (w : World) (h16 : c.toNat ≤ 16) (hl : (c :: r).length ≤ 4000) :
    Calls Try.prog 46 #[.string ⟨(c :: r).toArray⟩] w fun e w' => ∃ v, e = .returned (.tuple #[v, .int .i64 (if takeRow (c :: r) = none then 7 else 0)]) ∧
      w'.ownsRow w.heap.size 49 3 v ((takeRow (c :: r)).getD []).length (rowCells ((takeRow (c :: r)).getD [])) ∧ Below w.heap.size w w' := by
  have HTK := Lib.hid fun (ok1 ok : Bool) (l1 l : Bs) (ts : List Nat) (row : List Val) => takeRow_flag (c := c) (r := r) h16 hl (ok1 := ok1) (ok := ok) (l1 := l1) (l := l) (ts := ts) (row := row)
  have H16 := Lib.hid h16
  have HL := Lib.hid hl
  have hx : ∀ w' : World, (Instr.index 9 (.string ⟨(c :: r).toArray⟩) (.int .i64 0)).run Try.prog w' = .ok (.int .u8 (c.toNat : Int)) w' := fun w' => run_index_bytes w' (c :: r) 0 (by simp)
  obtain ⟨x, hxe⟩ : ∃ x : Int, (c.toNat : Int) = x := ⟨_, rfl⟩
  rw [hxe] at hx
  have hd0 : decide ((16 : Int) < x) = false := decide_eq_false (by omega)
  have hd1 : decide ((4000 : Int) < ((c :: r).length : Int)) = false := decide_eq_false (by omega)
  have hx0 : 0 ≤ x := by omega
  have HXE := Lib.hid hxe
  have hS : ∃ S, c :: r = S := ⟨_, rfl⟩
  obtain ⟨S, hS⟩ := hS
  have HS := Lib.hid hS
  rw [hS] at hx hd1 HTK HL ⊢
  have he : (S == []) = false := by rw [← hS]; rfl
  have hS1 : ¬ ((S.length : Int) < 1) := by rw [← hS]; simp; omega
  have hex : (⟨S.toArray⟩ : ByteArray).extract 1 S.length = ⟨r.toArray⟩ := by rw [extract_bytes, List.take_length, ← hS]; rfl
  clear h16 hl hxe hS
  obtain ⟨ε, hε⟩ : ∃ ε : Int, (if takeRow S = none then 7 else 0) = ε := ⟨_, rfl⟩
  obtain ⟨rr, hrr⟩ : ∃ rr, (takeRow S).getD [] = rr := ⟨_, rfl⟩
  rw [hε, hrr]
  have HE := Lib.hid hε
  have HRR := Lib.hid hrr
  clear hε hrr
  go_enter Try.func46, Try.ntmps46
  go_wp2_with fail
  have ho : One ((w.alloc (.cells #[.string ⟨r.toArray⟩] 9)).alloc (.cells #[.bool true] 4)) w.heap.size (.string ⟨r.toArray⟩) := (One.new w _ _).alloc _
  have ho2 : One ((w.alloc (.cells #[.string ⟨r.toArray⟩] 9)).alloc (.cells #[.bool true] 4)) (w.heap.size + 1) (.bool true) := by
    have := One.new (w.alloc (.cells #[.string ⟨r.toArray⟩] 9)) (.bool true) 4
    simpa using this
  have hb0 : Below w.heap.size w ((w.alloc (.cells #[.string ⟨r.toArray⟩] 9)).alloc (.cells #[.bool true] 4)) := ((Below.refl _ w).alloc (Nat.le_refl _) _).alloc (by simp) _
  have hz0 : ((w.alloc (.cells #[.string ⟨r.toArray⟩] 9)).alloc (.cells #[.bool true] 4)).heap.size = w.heap.size + 2 := by simp
  generalize ((w.alloc (.cells #[.string ⟨r.toArray⟩] 9)).alloc (.cells #[.bool true] 4)) = W0 at *
  have HO1 := Lib.hid ho
  have HO2 := Lib.hid ho2
  have HB0 := Lib.hid hb0
  have HZ0 := Lib.hid hz0
  clear ho ho2 hb0 hz0 he hd0 hd1 hex hS1
  go_loopw [30, 7] (fun a v wr => ∃ i : Nat, a = .int .u8 (i : Int) ∧ TRel c.toNat r w.heap.size (w.heap.size + 1) W0 i v wr) (fun a _ _ => 16 - (intOf a).toNat)
  case atStart => exact ⟨0, rfl, true, r, [], TGood.start _ _, HO1.out, HO2.out, World.ownsRow_nil _ _ _ _, But2.refl _ _ _⟩
  case round =>
    obtain ⟨i, rfl, ok, l, ts, hG, h1, h2, h3, h4⟩ := hrel
    by_cases hi : i < c.toNat
    · have hd : decide ((i : Int) < x) = true := decide_eq_true (by have := HXE.out; omega)
      have ht := take1_any w.heap.size (w.heap.size + 1) l ok wr (by omega) h1 h2 (by have := hG.2.2.1; have := HL.out; have := HS.out; rw [← this] at HL; have := HL.out; simp at this; omega)
      have HT := Lib.hid ht
      have HG := Lib.hid hG
      have H3 := Lib.hid h3
      have H4 := Lib.hid h4
      have HI := Lib.hid hi
      clear h1 h2 h3 h4 hG ht hi
      go_wp2_with fail
      refine HT.out.mono ?_
      rintro e w1 ⟨rfl, g1, g2, g3⟩
      have h5 : But2 w.heap.size (w.heap.size + 1) W0 w1 := H4.out.trans g3
      have h6 := own_but2 H3.out g3 (by have := HZ0.out; omega) (by have := HZ0.out; omega)
      have hsz := h5.size
      have G1 := Lib.hid g1
      have G2 := Lib.hid g2
      have H5 := Lib.hid h5
      have H6 := Lib.hid h6
      clear g1 g2 g3 h5 h6 HT
      go_wp2_with (
        at_builtin
        refine app_u64 _ rfl _ _ rfl W0.heap.size _ i ts rfl (H6.out.alloc _) _ _ _ [(takeN l).1] rfl (Sl.lit_u64 _ _ _ rfl) (by have := HI.out; have := H16.out; omega) (by simp; omega) ?_
        intro v' w2 k1 k2 k3
        have K1 := Lib.hid k1
        have K2 := Lib.hid k2
        have hi16 : (i : Int) < 16 := by have := HI.out; have := H16.out; omega
        clear k1 k2 k3)
      go_roundw
      case rel =>
        refine ⟨i + 1, by go_num, ok && decide ((takeN l).2.2 = 0), l.drop (takeN l).2.1, ts ++ [(takeN l).1], HG.out.step HI.out, ?_, ?_, K1.out, ?_⟩
        · exact (G1.out.alloc _).grown K2.out (fun k hk => by have := (H6.out.lt k hk).1; have := HZ0.out; omega)
        · exact (G2.out.alloc _).grown K2.out (fun k hk => by have := (H6.out.lt k hk).1; have := HZ0.out; omega)
        · exact (H5.out.alloc _).grown K2.out (fun k hk => (H6.out.lt k hk).1)
      case measure => simp [intOf]; omega
    · rename World => wm0
      have hic : i = c.toNat := by have := hG.2.1; omega
      have hd : decide ((i : Int) < x) = false := decide_eq_false (by have := HXE.out; omega)
      have hlen : ts.length = i := hG.1
      have hts := hG.2.2.2.1
      have hll : l.length ≤ 4000 := by
        have g1 := hG.2.2.1
        have g2 := HL.out
        have g3 := HS.out
        rw [← g3] at g2
        simp at g2
        omega
      have hfin := (hic ▸ hG).fin
      obtain ⟨A, cap, rfl, hSl⟩ := Sl.own h3
      have hR0 := BGood.start ts ok l
      have HFIN := Lib.hid (HTK.out ok · l · ts · hfin)
      obtain ⟨R, hR⟩ : ∃ R, (if ok then takeBodies ts l else none) = R := ⟨_, rfl⟩
      rw [hR] at hR0 HFIN
      have HR0 := Lib.hid hR0
      have HLEN := Lib.hid hlen
      have HTS := Lib.hid hts
      have HLL := Lib.hid hll
      have HIC := Lib.hid hic
      have H1 := Lib.hid h1
      have H2 := Lib.hid h2
      have H3 := Lib.hid h3
      have H4 := Lib.hid h4
      clear h1 h2 h3 h4 hG hfin hR hR0 hlen hts hll hi hic hSl HTK
      go_wp2
      go_loopw [40, 8] (fun a v wm => ∃ k : Nat, a = .int .i64 (k : Int) ∧ BRel ts R w.heap.size (w.heap.size + 1) wm0 k v wm) (fun a _ _ => i - (intOf a).toNat)
      case atStart => exact ⟨0, rfl, ok, l, [], HR0.out, HLL.out, H1.out, H2.out, World.ownsRow_nil _ _ _ _, But2.refl _ _ _⟩
      case round =>
        rename World => wm
        obtain ⟨k, rfl, ok2, l2, row, hG, hl4, h1, h2, h3, h4⟩ := hrel
        by_cases hk : k < i
        · have hkt : k < ts.length := by have := HLEN.out; omega
          have hdk : decide ((k : Int) < (i : Int)) = true := decide_eq_true (by omega)
          have h7 := own_but2 H3.out h4 (by have := HZ0.out; omega) (by have := HZ0.out; omega)
          obtain ⟨g, cap', hv, hgb, hgc, hgl⟩ := own_form h7 (by omega)
          injection hv with hv1 hv2 hv3
          subst hv1 hv3
          have hc : wm.cell? ⟨g, k, none⟩ = some (.int .u64 (ts[k] : Int)) := by
            rw [World.ownsRow.cellAt h7 k (by omega)]
            simp [tagCells, hkt]
          have htl := HTS.out ts[k] (List.getElem_mem hkt)
          have hstep := hG.step hkt
          have hlo := h1.lt
          have hlo2 := h2.lt
          have HSTEP := Lib.hid hstep
          have HH1 := Lib.hid h1
          have HH2 := Lib.hid h2
          have HH3 := Lib.hid h3
          have HH4 := Lib.hid h4
          have HL4 := Lib.hid hl4
          have HK := Lib.hid hk
          have hki : (k : Int) < (i : Int) := by omega
          clear h1 h2 h3 h4 h7 hG hstep hl4 hk hgc
          generalize ts[k] = t at *
          by_cases t1 : t = 1
          · subst t1
            clear htl
            have hkb : wm0.heap.size ≤ wm.heap.size := HH4.out.size
            have ht := take1_any w.heap.size (w.heap.size + 1) l2 ok2 (wm.alloc (.cells #[.int .u8 0, .int .i64 0, .string ⟨#[]⟩] 49)) (by omega) (HH1.out.alloc _) (HH2.out.alloc _) (by have := HL4.out; omega)
            have HT := Lib.hid ht
            clear ht
            go_wp2_with fail
            refine HT.out.mono ?_
            rintro e w1 ⟨rfl, g1, g2, g3⟩
            have hbox : w1.heap[wm.heap.size]? = some (.cells #[.int .u8 0, .int .i64 0, .string ⟨#[]⟩] 49 (0, 0)) := (g3.block wm.heap.size (by simp) (by omega) (by omega)).trans (heap_alloc_new wm _)
            have h5 : But2 w.heap.size (w.heap.size + 1) wm0 w1 := (HH4.out.alloc _).trans g3
            have h6 := own_but2 (HH3.out.alloc (.cells #[.int .u8 0, .int .i64 0, .string ⟨#[]⟩] 49)) g3 (by have := H4.out.size; have := HZ0.out; omega) (by have := H4.out.size; have := HZ0.out; omega)
            have hsz := h5.size
            have G1 := Lib.hid g1
            have G2 := Lib.hid g2
            have H5 := Lib.hid h5
            have H6 := Lib.hid h6
            have HBOX := Lib.hid hbox
            have e0 : w1.cell? ⟨wm.heap.size, 0, none⟩ = some (.int .u8 0) := by rw [Lib.cell_of_heap hbox]; rfl
            have e1 : w1.cell? ⟨wm.heap.size, 1, none⟩ = some (.int .i64 0) := by rw [Lib.cell_of_heap hbox]; rfl
            have e2 : w1.cell? ⟨wm.heap.size, 2, none⟩ = some (.string ⟨#[]⟩) := by rw [Lib.cell_of_heap hbox]; rfl
            have z0 := Lib.frozen_of_heap hbox 0
            have z1 := Lib.frozen_of_heap hbox 1
            have z2 := Lib.frozen_of_heap hbox 2
            have hu := unfold_any (takeN l2).1 w1 (Plain.takeN_lt l2)
            have HU := Lib.hid hu
            clear g1 g2 g3 h5 h6 HT hbox hu
            obtain ⟨n1, hn1⟩ : ∃ n1, (takeN l2).1 = n1 := ⟨_, rfl⟩
            have HN1 := Lib.hid hn1
            rw [hn1] at HU ⊢
            clear hn1
            go_wp2_with fail
            refine HU.out.mono ?_
            rintro e w1' ⟨rfl, rfl⟩
            go_wp2_with (
              at_builtin
              refine app_val _ rfl _ _ rfl wm0.heap.size _ k row rfl ((own_but1 H6.out (But2.cell3 wm.heap.size w1 _ _ _) (fun j hj => by have := (HH3.out.lt j hj).2; omega)).alloc _) _ _ _ [⟨1, unfoldN n1, []⟩] rfl (Sl.lit_val _ ⟨1, unfoldN n1, []⟩ _ (.int .u8 1) (.int .i64 (unfoldN n1)) (.string ⟨#[]⟩) (by simp [World.setCell]) rfl rfl rfl) (by have := HK.out; have := HIC.out; have := H16.out; omega) (by simp [World.setCell]; omega) ?_
              intro v' w2 k1 k2 k3
              have K1 := Lib.hid k1
              have K2 := Lib.hid k2
              have hi16 : (k : Int) < 16 := by have := HK.out; have := HIC.out; have := H16.out; omega
              clear k1 k2 k3 e0 e1 e2 z0 z1 z2)
            go_roundw
            case rel =>
              have hb3 := But2.cell3 wm.heap.size w1 (.int .u8 1) (.int .i64 (unfoldN n1)) (.string ⟨#[]⟩)
              have hbk : ∀ j, Value.ownBlock u8 = some j → wm0.heap.size ≤ j ∧ w.heap.size + 2 ≤ j := fun j hj => by have := (HH3.out.lt j hj).1; have := H4.out.size; have := HZ0.out; omega
              refine ⟨k + 1, by go_num, _, _, _, HSTEP.out, ?_, ?_, ?_, ?_, ?_⟩
              · have := HL4.out; have := bodyLeft_le 1 l2; omega
              · have := ((G1.out.but2 hb3 (by omega) (by omega)).alloc (.cells #[.int .u8 1, .int .i64 (unfoldN n1), .string ⟨#[]⟩] 49)).grown K2.out (fun j hj => by have := hbk j hj; omega)
                simpa [bodyLeft] using this
              · have := ((G2.out.but2 hb3 (by omega) (by omega)).alloc (.cells #[.int .u8 1, .int .i64 (unfoldN n1), .string ⟨#[]⟩] 49)).grown K2.out (fun j hj => by have := hbk j hj; omega)
                simpa [bodyOk] using this
              · have := K1.out
                rw [← HN1.out] at this
                exact this
              · exact ((H5.out.via hb3 hkb).alloc _).grown K2.out (fun j hj => (hbk j hj).1)
            case measure => simp [intOf]; have := HK.out; omega
          · by_cases t0 : t = 0
            · subst t0
              clear htl
              have hkb : wm0.heap.size ≤ wm.heap.size := HH4.out.size
              go_wp2_with (
                at_builtin
                refine app_val _ rfl _ _ rfl wm0.heap.size _ k row rfl ((HH3.out.alloc _).alloc _) _ _ _ [⟨0, 0, []⟩] rfl (Sl.lit_val _ ⟨0, 0, []⟩ _ (.int .u8 0) (.int .i64 0) (.string ⟨#[]⟩) (by simp) rfl rfl rfl) (by have := HK.out; have := HIC.out; have := H16.out; omega) (by simp; omega) ?_
                intro v' w2 k1 k2 k3
                have K1 := Lib.hid k1
                have K2 := Lib.hid k2
                have hi16 : (k : Int) < 16 := by have := HK.out; have := HIC.out; have := H16.out; omega
                clear k1 k2 k3)
              go_roundw
              case rel =>
                refine ⟨k + 1, by go_num, _, _, _, HSTEP.out, ?_, ?_, ?_, K1.out, ?_⟩
                · have := HL4.out; have := bodyLeft_le 0 l2; omega
                · exact ((HH1.out.alloc _).alloc _).grown K2.out (fun j hj => by have := (HH3.out.lt j hj).1; have := H4.out.size; have := HZ0.out; omega)
                · have := (((HH2.out.alloc (.cells #[.int .u8 0, .int .i64 0, .string ⟨#[]⟩] 49)).alloc (.cells #[.int .u8 0, .int .i64 0, .string ⟨#[]⟩] 49)).grown K2.out (fun j hj => by have := (HH3.out.lt j hj).1; have := H4.out.size; have := HZ0.out; omega))
                  simpa [bodyOk] using this
                · exact ((HH4.out.alloc _).alloc _).grown K2.out (fun j hj => (HH3.out.lt j hj).1)
              case measure => simp [intOf]; have := HK.out; omega
            · have hd1 : ((t : Int) == 1) = false := beq_eq_false_iff_ne.2 (by omega)
              have hd2 : decide ((1 : Int) < (t : Int)) = true := decide_eq_true (by omega)
              have HTL := Lib.hid htl
              have ht2 : 2 ≤ t := by omega
              have HT2 := Lib.hid ht2
              have e0 := HH1.out.cell
              have e1 := HH2.out.cell
              have z0 := HH1.out.frozen
              have z1 := HH2.out.frozen
              obtain ⟨m, z, b, hz, hb, hm, hmb, hmz⟩ := long_sums t l2.length htl ht2
              have hzl : z ≤ l2.length := by omega
              have hx1 : (⟨l2.toArray⟩ : ByteArray).extract 0 z = ⟨(l2.take z).toArray⟩ := by rw [extract_bytes]; rfl
              have hx2 : (⟨l2.toArray⟩ : ByteArray).extract z l2.length = ⟨(l2.drop z).toArray⟩ := by rw [extract_bytes, List.take_length]
              have hkind := long_kind t
              have HZ := Lib.hid hz
              have HB := Lib.hid hb
              obtain ⟨τ, hτ⟩ : ∃ τ : Int, (t : Int) = τ := ⟨_, rfl⟩
              rw [hτ] at hd1 hd2 hc hm hkind
              have HM := Lib.hid hm
              have HMZ := Lib.hid hmz
              have HKD := Lib.hid hkind
              clear htl ht2 t0 t1 hz hb hτ hm hmz hkind
              have hzI : (z : Int) ≤ (l2.length : Int) := by omega
              clear hzl
              go_upto_region 20 with fail
              rw [HM.out]
              have hkb : wm0.heap.size ≤ wm.heap.size := HH4.out.size
              have hbl : w.heap.size < wm0.heap.size := by have := H4.out.size; have := HZ0.out; omega
              have hbo : w.heap.size + 1 < wm0.heap.size := by have := H4.out.size; have := HZ0.out; omega
              have hfin2 : ∀ (kv : Int) (ok3 : Bool) (v' : Value) (w2 : World), ok3 = (ok2 && b) → w2.ownsRow wm0.heap.size 49 3 v' (k + 1) (rowCells (row ++ [⟨2 + (t % 2 : Nat), 0, l2.take z⟩])) →
                  ((((wm.setCell ⟨w.heap.size + 1, 0, none⟩ (.bool ok3)).setCell ⟨w.heap.size, 0, none⟩ (.string ⟨(l2.drop z).toArray⟩)).alloc (.cells #[.int .u8 kv, .int .i64 0, .string ⟨(l2.take z).toArray⟩] 49)).alloc (.cells #[.int .u8 kv, .int .i64 0, .string ⟨(l2.take z).toArray⟩] 49)).grownBy w2 (Value.ownBlock u8) →
                  BRel ts R w.heap.size (w.heap.size + 1) wm0 (k + 1) v' w2 := by
                intro kv ok3 v' w2 hok k1 k2
                have hbk : ∀ j, Value.ownBlock u8 = some j → wm0.heap.size ≤ j ∧ w.heap.size + 2 ≤ j := fun j hj => by have := (HH3.out.lt j hj).1; have := H4.out.size; have := HZ0.out; omega
                have hst := HSTEP.out
                have hlong := Plain.body_long t l2 HT2.out
                rw [hlong.1, hlong.2.1, hlong.2.2, ← HZ.out, ← HB.out] at hst
                refine ⟨_, _, _, hst, ?_, ?_, ?_, k1, ?_⟩
                · have := HL4.out; simp; omega
                · exact (((HH1.out.setOther (by omega) (.bool ok3)).set _).alloc _ |>.alloc _).grown k2 (fun j hj => by have := hbk j hj; omega)
                · rw [← hok]
                  exact ((((HH2.out.set (.bool ok3)).setOther (by omega) _).alloc _).alloc _).grown k2 (fun j hj => by have := hbk j hj; omega)
                · exact ((((HH4.out.set2 (.bool ok3)).set1 _).alloc _).alloc _).grown k2 (fun j hj => (hbk j hj).1)
              have HFIN2 := Lib.hid hfin2
              clear hfin2
              cases ok2
              · go_upto_region 22 with fail
                rw [HMZ.out]
                go_wp2_with (
                  at_builtin
                  refine app_val _ rfl _ _ rfl wm0.heap.size _ k row rfl (((own_set (own_set HH3.out hbo _) hbl _).alloc _).alloc _) _ _ _ [⟨2 + (t % 2 : Nat), 0, l2.take z⟩] rfl (Sl.lit_val _ ⟨2 + (t % 2 : Nat), 0, l2.take z⟩ _ (.int .u8 ((2 + τ.tmod 2) % 256)) (.int .i64 0) (.string ⟨(l2.take z).toArray⟩) (by simp [World.setCell]) (by rw [HKD.out]) rfl rfl) (by have := HK.out; have := HIC.out; have := H16.out; omega) (by simp [World.setCell]; omega) ?_
                  intro v' w2 k1 k2 k3
                  have K1 := Lib.hid k1
                  have K2 := Lib.hid k2
                  have hi16 : (k : Int) < 16 := by have := HK.out; have := HIC.out; have := H16.out; omega
                  clear k1 k2 k3 hc e0 e1 z0 z1 hd1 hd2 hx1 hx2 hmb)
                go_roundw
                case rel => exact ⟨k + 1, by go_num, HFIN2.out _ false v' w2 (by simp) K1.out K2.out⟩
                case measure => simp [intOf]; have := HK.out; omega
              · go_upto_region 22 with fail
                rw [HMZ.out]
                go_wp2_with (
                  at_builtin
                  refine app_val _ rfl _ _ rfl wm0.heap.size _ k row rfl (((own_set (own_set HH3.out hbo _) hbl _).alloc _).alloc _) _ _ _ [⟨2 + (t % 2 : Nat), 0, l2.take z⟩] rfl (Sl.lit_val _ ⟨2 + (t % 2 : Nat), 0, l2.take z⟩ _ (.int .u8 ((2 + τ.tmod 2) % 256)) (.int .i64 0) (.string ⟨(l2.take z).toArray⟩) (by simp [World.setCell]) (by rw [HKD.out]) rfl rfl) (by have := HK.out; have := HIC.out; have := H16.out; omega) (by simp [World.setCell]; omega) ?_
                  intro v' w2 k1 k2 k3
                  have K1 := Lib.hid k1
                  have K2 := Lib.hid k2
                  have hi16 : (k : Int) < 16 := by have := HK.out; have := HIC.out; have := H16.out; omega
                  clear k1 k2 k3 hc e0 e1 z0 z1 hd1 hd2 hx1 hx2 hmb)
                go_roundw
                case rel => exact ⟨k + 1, by go_num, HFIN2.out _ b v' w2 (by simp) K1.out K2.out⟩
                case measure => simp [intOf]; have := HK.out; omega
        · have hki : k = ts.length := by have := hG.2.1; have := HLEN.out; omega
          have hdk : decide (k < i) = false := decide_eq_false (by omega)
          have htk := HFIN.out ok2 l2 row (hG.fin hki)
          have hrl : row.length = k := hG.1
          have hbe : Below w.heap.size w wm := h4.below (H4.out.below HB0.out (by omega) (by omega) (by have := HZ0.out; omega)) (by omega) (by omega) (by have := H4.out.size; have := HZ0.out; omega)
          have e0 := h1.cell
          have e1 := h2.cell
          have hown : wm.ownsRow w.heap.size 49 3 u8 row.length (rowCells row) := by rw [hrl]; exact h3.mono (by have := H4.out.size; have := HZ0.out; omega)
          have hel : (l2 == []) = decide (l2 = []) := by cases l2 <;> simp
          have HTKE := Lib.hid htk
          have HBE := Lib.hid hbe
          have HOWN := Lib.hid hown
          clear h1 h2 h3 h4 hG hki htk hrl hbe hown hk hl4
          cases ok2
          · obtain rfl : ε = 7 := by rw [← HE.out, HTKE.out]; rfl
            obtain rfl : rr = [] := by rw [← HRR.out, HTKE.out]; rfl
            go_wp2
            go_ret2
            exact ⟨_, rfl, World.ownsRow_nil _ _ _ _, HBE.out⟩
          · by_cases hl2 : l2 = []
            · rw [decide_eq_true hl2] at hel
              have hl3 := Lib.hid hl2
              obtain rfl : ε = 0 := by rw [← HE.out, HTKE.out, hl2]; rfl
              obtain rfl : rr = row := by rw [← HRR.out, HTKE.out, hl2]; rfl
              clear hl2
              go_wp2
              go_ret2
              exact ⟨_, rfl, HOWN.out, HBE.out⟩
            · rw [decide_eq_false hl2] at hel
              have hl3 := Lib.hid hl2
              obtain rfl : ε = 7 := by rw [← HE.out, HTKE.out, decide_eq_false hl2]; rfl
              obtain rfl : rr = [] := by rw [← HRR.out, HTKE.out, decide_eq_false hl2]; rfl
              clear hl2
              go_wp2
              go_ret2
              exact ⟨_, rfl, World.ownsRow_nil _ _ _ _, HBE.out⟩

set_option maxHeartbeats 400000 in
theorem tk_nil (w : World) : Calls Try.prog 46 #[.string ⟨([] : Bs).toArray⟩] w fun e w' => e = .returned (.tuple #[.slice none 0 0, .int .i64 7]) ∧ w = w' := by
  have he : (([] : Bs) == []) = true := rfl
  go_enter Try.func46, Try.ntmps46
  go_wp2
  go_ret2
  exact ⟨rfl, rfl⟩
set_option maxHeartbeats 400000 in
theorem tk_far (c : UInt8) (r : Bs) (w : World) (h : 16 < c.toNat ∨ 4000 < (c :: r).length) (hlen : (c :: r).length ≤ 1048576) :
    Calls Try.prog 46 #[.string ⟨(c :: r).toArray⟩] w fun e w' => e = .returned (.tuple #[.slice none 0 0, .int .i64 7]) ∧ w = w' := by
  have hx : ∀ w' : World, (Instr.index 9 (.string ⟨(c :: r).toArray⟩) (.int .i64 0)).run Try.prog w' = .ok (.int .u8 (c.toNat : Int)) w' := fun w' => run_index_bytes w' (c :: r) 0 (by simp)
  obtain ⟨x, hxe⟩ : ∃ x : Int, (c.toNat : Int) = x := ⟨_, rfl⟩
  rw [hxe] at hx
  obtain ⟨b0, hd0⟩ : ∃ b0 : Bool, decide ((16 : Int) < x) = b0 := ⟨_, rfl⟩
  obtain ⟨b1, hd1⟩ : ∃ b1 : Bool, decide ((4000 : Int) < ((c :: r).length : Int)) = b1 := ⟨_, rfl⟩
  have hb : b0 = true ∨ b1 = true := by
    rcases h with h | h
    · exact .inl (by rw [← hd0]; exact decide_eq_true (by omega))
    · exact .inr (by rw [← hd1]; exact decide_eq_true (by omega))
  obtain ⟨S, hS⟩ : ∃ S, c :: r = S := ⟨_, rfl⟩
  rw [hS] at hx hd1 hlen ⊢
  have he : (S == []) = false := by rw [← hS]; rfl
  clear h hxe hS hlen
  cases b0
  · obtain rfl : b1 = true := by rcases hb with hb | hb; cases hb; exact hb
    clear hb
    go_enter Try.func46, Try.ntmps46
    go_wp2
    go_ret2
    exact ⟨rfl, rfl⟩
  · clear hb
    go_enter Try.func46, Try.ntmps46
    go_wp2
    go_ret2
    exact ⟨rfl, rfl⟩

/-- record.Take -/
theorem tk_any (s : Bs) (w : World) (hlen : s.length ≤ 1048576) :
    Calls Try.prog 46 #[.string ⟨s.toArray⟩] w fun e w' => ∃ v, e = .returned (.tuple #[v, .int .i64 (if takeRow s = none then 7 else 0)]) ∧
      w'.ownsRow w.heap.size 49 3 v ((takeRow s).getD []).length (rowCells ((takeRow s).getD [])) ∧ Below w.heap.size w w' := by
  have key : ∀ s : Bs, takeRow s = none → (Calls Try.prog 46 #[.string ⟨s.toArray⟩] w fun e w' => e = .returned (.tuple #[.slice none 0 0, .int .i64 7]) ∧ w = w') →
      Calls Try.prog 46 #[.string ⟨s.toArray⟩] w fun e w' => ∃ v, e = .returned (.tuple #[v, .int .i64 (if takeRow s = none then 7 else 0)]) ∧
      w'.ownsRow w.heap.size 49 3 v ((takeRow s).getD []).length (rowCells ((takeRow s).getD [])) ∧ Below w.heap.size w w' := by
    intro s hs hc
    refine hc.mono ?_
    rintro e w' ⟨rfl, rfl⟩
    rw [hs]
    exact ⟨_, rfl, World.ownsRow_nil _ _ _ _, Below.refl _ _⟩
  cases s with
  | nil => exact key _ takeRow_nil (tk_nil w)
  | cons c r =>
    rcases Nat.lt_or_ge 16 c.toNat with h1 | h1
    · exact key _ (takeRow_many h1) (tk_far c r w (.inl h1) hlen)
    · rcases Nat.lt_or_ge 4000 (c :: r).length with h2 | h2
      · exact key _ (takeRow_long h2) (tk_far c r w (.inr h2) hlen)
      · exact tk_main c r w h1 h2
end Go.Proofs.Ytljfolepmkcjlaa
