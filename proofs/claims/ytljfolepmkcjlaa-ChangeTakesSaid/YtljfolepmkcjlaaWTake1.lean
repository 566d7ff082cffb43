/-
  The walk of record.Take's own closure: it takes one number off what is left.
-/
import Derived.Test.YtljfolepmkcjlaaWTake
import Derived.Test.YtljfolepmkcjlaaBld
namespace Go.Proofs.Ytljfolepmkcjlaa
open Go.RowKit Plain
set_option maxRecDepth 100000

/-- block b is one cell that holds v -/
def One (w : World) (b : Nat) (v : Value) : Prop := ∃ T, w.heap[b]? = some (.cells #[v] T (0, 0))
theorem One.cell {w : World} {b : Nat} {v : Value} (h : One w b v) : w.cell? ⟨b, 0, none⟩ = some v := by obtain ⟨T, h⟩ := h; rw [Lib.cell_of_heap h]; rfl
theorem One.frozen {w : World} {b : Nat} {v : Value} (h : One w b v) : w.frozen? ⟨b, 0, none⟩ = false := by obtain ⟨T, h⟩ := h; exact Lib.frozen_of_heap h 0
theorem One.lt {w : World} {b : Nat} {v : Value} (h : One w b v) : b < w.heap.size := by obtain ⟨T, h⟩ := h; exact heap_lt h
theorem One.keep {w w' : World} {b : Nat} {v : Value} (h : One w b v) (hk : w'.heap[b]? = w.heap[b]?) : One w' b v := by obtain ⟨T, h⟩ := h; exact ⟨T, hk.trans h⟩
theorem One.below {w w' : World} {b : Nat} {v : Value} (h : One w b v) (hb : Below w.heap.size w w') : One w' b v := h.keep (hb.block b h.lt)
theorem One.set {w : World} {b : Nat} {v : Value} (h : One w b v) (u : Value) : One (w.setCell ⟨b, 0, none⟩ u) b u := by
  obtain ⟨T, h⟩ := h
  exact ⟨T, by simp [World.setCell, Array.getElem?_modify, h]⟩
theorem One.setOther {w : World} {b c : Nat} {v : Value} (h : One w b v) (hne : b ≠ c) (u : Value) : One (w.setCell ⟨c, 0, none⟩ u) b v := h.keep (Below.heap_setCell _ _ _ _ hne)
theorem One.new (w : World) (v : Value) (T : TypeId) : One (w.alloc (.cells #[v] T)) w.heap.size v := ⟨T, heap_alloc_new w _⟩
theorem One.alloc {w : World} {b : Nat} {v : Value} (h : One w b v) (o : Obj) : One (w.alloc o) b v := h.keep (Below.heap_alloc _ _ _ h.lt)

/-- all that was there but blocks b and c is as it was -/
structure But2 (b c : Nat) (w w' : World) : Prop where
  os : w'.os = w.os
  tape : w'.tape = w.tape
  output : w'.output = w.output
  size : w.heap.size ≤ w'.heap.size
  block : ∀ k, k < w.heap.size → k ≠ b → k ≠ c → w'.heap[k]? = w.heap[k]?
theorem But2.below {b c B : Nat} {w0 w w' : World} (h : But2 b c w w') (hb : Below B w0 w) (h1 : B ≤ b) (h2 : B ≤ c) (hz : B ≤ w.heap.size) : Below B w0 w' :=
  hb.trans ⟨h.os, h.tape, h.output, h.size, fun k hk => h.block k (by omega) (by omega) (by omega)⟩

set_option maxHeartbeats 1000000 in
theorem take1_any (bl bo : Nat) (l : Bs) (ok : Bool) (w : World) (hne : bl ≠ bo) (hl : One w bl (.string ⟨l.toArray⟩)) (ho : One w bo (.bool ok)) (hlen : l.length ≤ 65536) :
    Calls Try.prog 65 #[.pointer (some ⟨bl, 0, none⟩), .pointer (some ⟨bo, 0, none⟩)] w fun e w' => e = .returned (.int .u64 ((takeN l).1 : Nat)) ∧
      One w' bl (.string ⟨(l.drop (takeN l).2.1).toArray⟩) ∧ One w' bo (.bool (ok && decide ((takeN l).2.2 = 0))) ∧ But2 bl bo w w' := by
  have HT := Lib.hid (take_any l w hlen)
  have hsz : (takeN l).2.1 ≤ l.length := by
    by_cases h : (takeN l).2.2 = 0
    · exact (takeN_ok l h).2.2.2.1
    · rw [(takeN_bad l h).2]; omega
  have he : ∀ s : Nat, s ≤ l.length → (⟨l.toArray⟩ : ByteArray).extract s l.length = ⟨(l.drop s).toArray⟩ := fun s hs => by rw [extract_bytes, List.take_length]
  have c0 := hl.cell
  have HL := Lib.hid hl
  have HO := Lib.hid ho
  have HE := Lib.hid he
  clear he
  generalize hn : (takeN l).1 = n at *
  generalize hs : (takeN l).2.1 = s at *
  generalize hx : (takeN l).2.2 = x at *
  clear hn hs hx
  have hl0 := hl.lt
  have ho0 := ho.lt
  clear hl ho
  go_enter Try.func65, Try.ntmps65
  go_wp2_with fail
  refine HT.out.mono ?_
  rintro e w1 ⟨rfl, hb⟩
  have hl1 := HL.out.below hb
  have ho1 := HO.out.below hb
  have hbs := hb.size
  have hkey : ∀ q : Bool, q = (ok && decide (x = 0)) → One ((w1.setCell ⟨bo, 0, none⟩ (.bool q)).setCell ⟨bl, 0, none⟩ (.string ⟨(l.drop s).toArray⟩)) bl (.string ⟨(l.drop s).toArray⟩) ∧
      One ((w1.setCell ⟨bo, 0, none⟩ (.bool q)).setCell ⟨bl, 0, none⟩ (.string ⟨(l.drop s).toArray⟩)) bo (.bool (ok && decide (x = 0))) ∧
      But2 bl bo w ((w1.setCell ⟨bo, 0, none⟩ (.bool q)).setCell ⟨bl, 0, none⟩ (.string ⟨(l.drop s).toArray⟩)) := by
    intro q hq
    refine ⟨((hl1.setOther hne _).set _), by rw [← hq]; exact (ho1.set _).setOther hne.symm _, ⟨hb.os, hb.tape, hb.output, by simp [World.setCell]; omega, fun k hk h1 h2 => ?_⟩⟩
    rw [Below.heap_setCell _ _ _ _ h1, Below.heap_setCell _ _ _ _ h2]
    exact hb.block k hk
  have HK := Lib.hid hkey
  have e0 := hl1.cell
  have e1 := ho1.cell
  have e2 := ho1.frozen
  have hex := HE.out s hsz
  have hsI : (s : Int) ≤ (l.length : Int) := by omega
  have f0 : ∀ q, (w1.setCell ⟨bo, 0, none⟩ (.bool q)).cell? ⟨bl, 0, none⟩ = some (.string ⟨l.toArray⟩) := fun q => (hl1.setOther hne _).cell
  have f1 : ∀ q, (w1.setCell ⟨bo, 0, none⟩ (.bool q)).frozen? ⟨bl, 0, none⟩ = false := fun q => (hl1.setOther hne (.bool q)).frozen
  clear hkey hl1 ho1 hbs hb c0 hl0 ho0 HT HE HL HO
  by_cases hx : x = 0
  · subst hx
    cases ok
    all_goals
      go_wp2
      go_ret
      exact ⟨rfl, HK.out _ (by simp)⟩
  · have hxe : ((x : Int) == 0) = false := beq_eq_false_iff_ne.2 (by omega)
    have HX := Lib.hid hx
    clear hx
    cases ok
    all_goals
      go_wp2
      go_ret
      exact ⟨rfl, HK.out _ (by simp [HX.out])⟩
end Go.Proofs.Ytljfolepmkcjlaa
