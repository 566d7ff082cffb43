/-
  strings.Builder: what the writing methods and String do, with the frame told block by block (so that two builders can stand side by side).
-/
import Derived.Test.YtljfolepmkcjlaaMem
import Derived.Lib.Builder
import Derived.Lib.AppendStr
import Derived.RegionTactic
namespace Go.Proofs.Ytljfolepmkcjlaa
open Go.RowKit
set_option maxRecDepth 100000

/-- The block of a builder's buffer. -/
def bufOf (w : World) (b : Nat) : Option Nat :=
  match w.heap[b]? with
  | some (.cells c _ _) => (c.getD 1 undef).ownBlock
  | _ => none

/-- A builder in block b (its rows from B on) that holds the bytes l. -/
def Bd (b : Nat) (l : List UInt8) (B : Nat) (w : World) : Prop :=
  B ≤ b ∧ ∃ p v, (p = .pointer none ∨ p = .pointer (some ⟨b, 0, none⟩)) ∧ w.heap[b]? = some (.cells #[p, v] 72 (0, 0)) ∧ w.ownsRow B 5 1 v l.length (Lib.byteCells l) ∧ (l = [] → v = .slice none 0 0)

/-- Nothing but block b and its buffer's row has turned. -/
structure Touch (b : Nat) (w w' : World) : Prop where
  os : w'.os = w.os
  tape : w'.tape = w.tape
  output : w'.output = w.output
  size : w.heap.size ≤ w'.heap.size
  block : ∀ k, k < w.heap.size → k ≠ b → some k ≠ bufOf w b → w'.heap[k]? = w.heap[k]?

theorem bufOf_eq {w : World} {b : Nat} {p v : Value} {T : TypeId} {fr : Nat × Nat} (h : w.heap[b]? = some (.cells #[p, v] T fr)) : bufOf w b = v.ownBlock := by
  unfold bufOf; rw [h]; rfl

theorem heap_lt {w : World} {k : Nat} {o : Obj} (h : w.heap[k]? = some o) : k < w.heap.size := by
  rcases Nat.lt_or_ge k w.heap.size with h' | h'
  · exact h'
  · rw [Array.getElem?_eq_none h'] at h; cases h

theorem Bd.lt {b : Nat} {l : List UInt8} {B : Nat} {w : World} (h : Bd b l B w) : b < w.heap.size := by
  obtain ⟨_, p, v, _, hb, _, _⟩ := h
  exact heap_lt hb
theorem Bd.buf_lt {b : Nat} {l : List UInt8} {B : Nat} {w : World} (h : Bd b l B w) : ∀ g, bufOf w b = some g → B ≤ g ∧ g < w.heap.size ∧ g ≠ b := by
  obtain ⟨_, p, v, _, hb, ho, _⟩ := h
  intro g hg
  rw [bufOf_eq hb] at hg
  obtain ⟨h1, h2⟩ := ho.lt g hg
  refine ⟨h1, h2, ?_⟩
  rintro rfl
  exact Lib.ownBlock_ne ho hb (by decide) hg

/-- a builder stands where its block and its buffer's stand -/
theorem Bd.keep {b : Nat} {l : List UInt8} {B : Nat} {w w' : World} (h : Bd b l B w) (h1 : w'.heap[b]? = w.heap[b]?) (h2 : ∀ g, bufOf w b = some g → w'.heap[g]? = w.heap[g]?) : Bd b l B w' ∧ bufOf w' b = bufOf w b := by
  obtain ⟨hB, p, v, hp, hb, ho, hnil⟩ := h
  have e := bufOf_eq hb
  have hb' : w'.heap[b]? = some (.cells #[p, v] 72 (0, 0)) := h1.trans hb
  refine ⟨⟨hB, p, v, hp, hb', ?_, hnil⟩, by rw [bufOf_eq hb', e]⟩
  refine ⟨ho.1, ?_⟩
  rcases ho.2 with hn | ⟨g, cap, cur, rfl, a1, a2, a3⟩
  · exact .inl hn
  · exact .inr ⟨g, cap, cur, rfl, a1, (h2 g (by rw [e]; rfl)).trans a2, a3⟩
theorem Bd.below {b : Nat} {l : List UInt8} {B : Nat} {w w' : World} (h : Bd b l B w) (hb : Below w.heap.size w w') : Bd b l B w' ∧ bufOf w' b = bufOf w b :=
  h.keep (hb.block b h.lt) (fun g hg => hb.block g (h.buf_lt g hg).2.1)
theorem Bd.other {b c : Nat} {l : List UInt8} {B : Nat} {w w' : World} (h : Bd b l B w) (hne : b ≠ c) (hd : ∀ g, bufOf w b = some g → bufOf w c ≠ some g ∧ g ≠ c) (hc : ∀ g, bufOf w c = some g → g ≠ b) (ht : Touch c w w') : Bd b l B w' ∧ bufOf w' b = bufOf w b :=
  h.keep (ht.block b h.lt hne (fun e => hc b e.symm rfl)) (fun g hg => ht.block g (h.buf_lt g hg).2.1 (hd g hg).2 (fun e => (hd g hg).1 e.symm))

theorem Touch.below {b B : Nat} {l : List UInt8} {w0 w w' : World} (ht : Touch b w w') (h : Bd b l B w) (hb : Below B w0 w) : Below B w0 w' :=
  hb.trans ⟨ht.os, ht.tape, ht.output, ht.size, fun k hk => by
    have hlt : k < w.heap.size := by have := h.lt; have := h.1; omega
    refine ht.block k hlt (by have := h.1; omega) ?_
    intro e
    have := (h.buf_lt k e.symm).1
    omega⟩

/-- a fresh one -/
theorem Bd.new (w : World) (B : Nat) (hB : B ≤ w.heap.size) : Bd w.heap.size [] B (w.alloc (.cells #[.pointer none, .slice none 0 0] 72)) :=
  ⟨hB, _, _, .inl rfl, heap_alloc_new w _, World.ownsRow_nil _ _ _ _, fun _ => rfl⟩
theorem bufOf_new (w : World) : bufOf (w.alloc (.cells #[.pointer none, .slice none 0 0] 72)) w.heap.size = none := by
  rw [bufOf_eq (heap_alloc_new w _)]; rfl

theorem bd_size : (Try.prog.info? 72).map (fun i => decide (i.size ≠ 0)) = some true := by kernel_rfl
theorem bd_lies : liesAt Try.prog Try.prog.depth 72 (2 / Try.prog.cellsOf 72) 0 72 1 = true := by kernel_rfl

set_option maxHeartbeats 1000000 in
theorem copyCheck_used (b : Nat) (w : World) (h0 : w.cell? ⟨b, 0, none⟩ = some (.pointer (some ⟨b, 0, none⟩))) :
    Calls Try.prog 75 #[.pointer (some ⟨b, 0, none⟩)] w fun e w' => e = .returned (.tuple #[]) ∧ w' = w := by
  obtain ⟨j, hj, _⟩ := Option.map_eq_some_iff.1 bd_size
  go_enter Try.func75, Try.ntmps75
  go_wp2
  rw [Lib.run_neq_ptr_same w _ Try.underlying69 hj]
  go_wp2
  go_end0
  exact ⟨rfl, rfl⟩

set_option maxHeartbeats 1000000 in
theorem copyCheck_fresh (b : Nat) (w : World) (h0 : w.cell? ⟨b, 0, none⟩ = some (.pointer none)) (hsh : w.shape? b = some (72, 2)) (hfz : w.frozen? ⟨b, 0, none⟩ = false) :
    Calls Try.prog 75 #[.pointer (some ⟨b, 0, none⟩)] w fun e w' => e = .returned (.tuple #[]) ∧ w' = w.setCell ⟨b, 0, none⟩ (.pointer (some ⟨b, 0, none⟩)) := by
  obtain ⟨j, hj, hjs⟩ := Option.map_eq_some_iff.1 bd_size
  go_enter Try.func75, Try.ntmps75
  go_wp2
  rw [Lib.run_to_unsafe w ⟨b, 0, none⟩ Try.underlying69 Try.underlying103 hj (by simpa using hjs) hsh (Nat.zero_lt_succ 1)]
  simp only [Result.andThen]
  rw [Oper.upon_value]
  go_wp2
  rw [run_callFunc_extern Try.func89 (by kernel_rfl) (by kernel_rfl) (by kernel_rfl) (e := Extern.AbiNoEscape.same) (by kernel_rfl)]
  rw [Lib.run_noEscape]
  simp only [Result.andThen]
  rw [Oper.upon_value]
  go_wp2
  rw [Lib.run_from_unsafe w ⟨b, 0, none⟩ Try.underlying103 Try.underlying69 hj hsh bd_lies]
  simp only [Result.andThen]
  rw [Oper.upon_value]
  go_wp2
  go_end0
  exact ⟨rfl, rfl⟩

/-- copyCheck, whatever the builder was: behind it block b holds its own address and the buffer that it held. -/
theorem copyCheck_any (b : Nat) (l : List UInt8) (B : Nat) (w : World) (h : Bd b l B w) :
    Calls Try.prog 75 #[.pointer (some ⟨b, 0, none⟩)] w fun e w' => e = .returned (.tuple #[]) ∧ ∃ v, w'.heap[b]? = some (.cells #[.pointer (some ⟨b, 0, none⟩), v] 72 (0, 0)) ∧
      w'.ownsRow B 5 1 v l.length (Lib.byteCells l) ∧ bufOf w b = v.ownBlock ∧ w'.heap.size = w.heap.size ∧ Touch b w w' ∧ (l = [] → v = .slice none 0 0) := by
  obtain ⟨hB, p, v, hp, hb, ho, hnil⟩ := h
  have hlt := heap_lt hb
  rcases hp with rfl | rfl
  · refine (copyCheck_fresh b w (by rw [Lib.cell_of_heap hb]; rfl) (by simp [World.shape?, hb]) (Lib.frozen_of_heap hb 0)).mono ?_
    rintro e w' ⟨rfl, rfl⟩
    have hu := Lib.BuilderAt.used (T := 72) (e := 5) (B := B) (b := b) (p := .pointer none) (bs := Lib.byteCells l) ⟨hB, v, hb, by rw [Lib.byteCells_length]; exact ho, Lib.ownBlock_ne ho hb (by decide)⟩ (.pointer (some ⟨b, 0, none⟩))
    obtain ⟨_, v', h1, h2, _⟩ := hu
    rw [Lib.byteCells_length] at h2
    have hh : (w.setCell ⟨b, 0, none⟩ (.pointer (some ⟨b, 0, none⟩))).heap[b]? = some (.cells #[.pointer (some ⟨b, 0, none⟩), v] 72 (0, 0)) := by
      simp [World.setCell, Array.getElem?_modify, hb]
    have hv : v' = v := by
      rw [hh] at h1
      simp at h1
      exact h1.symm
    subst hv
    exact ⟨rfl, v', hh, h2, bufOf_eq hb, by simp [World.setCell], ⟨rfl, rfl, rfl, by simp [World.setCell], fun k _ hk _ => Below.heap_setCell _ _ _ _ hk⟩, hnil⟩
  · refine (copyCheck_used b w (by rw [Lib.cell_of_heap hb]; rfl)).mono ?_
    rintro e w' ⟨rfl, rfl⟩
    exact ⟨rfl, v, hb, ho, bufOf_eq hb, rfl, ⟨rfl, rfl, rfl, Nat.le_refl _, fun _ _ _ _ => rfl⟩, hnil⟩

/-- behind an append of a buffer and its store -/
theorem bd_put {b B : Nat} {l' : List UInt8} {w w1 w2 : World} {v v' : Value} (hB : B ≤ b) (_hlt : b < w.heap.size) (_hw1 : w.heap.size ≤ w1.heap.size) (hk1 : ∀ k, k < w.heap.size → k ≠ b → some k ≠ v.ownBlock → w2.heap[k]? = w.heap[k]?)
    (hos : w2.os = w.os) (hta : w2.tape = w.tape) (hou : w2.output = w.output) (hsz : w1.heap.size ≤ w2.heap.size)
    (hb2 : w2.heap[b]? = some (.cells #[.pointer (some ⟨b, 0, none⟩), v] 72 (0, 0))) (hown : w2.ownsRow B 5 1 v' l'.length (Lib.byteCells l'))
    (hbuf : bufOf w b = v.ownBlock) (hnil : l' = [] → v' = .slice none 0 0) (hv' : v'.ownBlock = v.ownBlock ∨ ∃ g, v'.ownBlock = some g ∧ w.heap.size ≤ g) :
    Bd b l' B (w2.setCell ⟨b, 1, none⟩ v') ∧ Touch b w (w2.setCell ⟨b, 1, none⟩ v') ∧ (bufOf (w2.setCell ⟨b, 1, none⟩ v') b = bufOf w b ∨ ∃ g, bufOf (w2.setCell ⟨b, 1, none⟩ v') b = some g ∧ w.heap.size ≤ g) := by
  have hu := Lib.BuilderAt.put (T := 72) (e := 5) (v' := v') hB hb2 (bs' := Lib.byteCells l') (by rw [Lib.byteCells_length]; exact hown) (by decide)
  obtain ⟨_, v'', h1, h2, _⟩ := hu
  rw [Lib.byteCells_length] at h2
  have hh : (w2.setCell ⟨b, 1, none⟩ v').heap[b]? = some (.cells #[.pointer (some ⟨b, 0, none⟩), v'] 72 (0, 0)) := by
    simp [World.setCell, Array.getElem?_modify, hb2]
  have hv : v'' = v' := by
    rw [hh] at h1
    simp at h1
    exact h1.symm
  subst hv
  refine ⟨⟨hB, _, v'', .inr rfl, hh, h2, hnil⟩, ⟨hos, hta, hou, by simp [World.setCell]; omega, fun k hk hne hn => ?_⟩, ?_⟩
  · rw [Below.heap_setCell _ _ _ _ hne]
    exact hk1 k hk hne (by rw [← hbuf]; exact hn)
  · rw [bufOf_eq hh, hbuf]
    exact hv'

set_option maxHeartbeats 2000000 in
theorem wbyte_any (b : Nat) (l : List UInt8) (B : Nat) (c : UInt8) (ci : Int) (hci : ci = (c.toNat : Int)) (w : World) (h : Bd b l B w) (hlen : l.length + 1 ≤ 140737488355328) :
    Calls Try.prog 86 #[.pointer (some ⟨b, 0, none⟩), .int .u8 ci] w fun e w' => e = .returned .nilIface ∧ Bd b (l ++ [c]) B w' ∧ Touch b w w' ∧ (bufOf w' b = bufOf w b ∨ ∃ g, bufOf w' b = some g ∧ w.heap.size ≤ g) := by
  have hlt0 := h.lt
  have hB := h.1
  have HC := Lib.hid (copyCheck_any b l B w h)
  have HCI := Lib.hid hci
  clear hci h
  go_enter Try.func86, Try.ntmps86
  go_wp2_with (go_at_call 75; refine HC.out.mono ?_)
  rintro e w1 ⟨rfl, v, hbk, hown, hbuf, hsz, ht, hnil⟩
  have HN := Lib.hid hnil
  clear hnil
  have c0 : w1.cell? ⟨b, 0, none⟩ = some (.pointer (some ⟨b, 0, none⟩)) := by rw [Lib.cell_of_heap hbk]; rfl
  have c1 : w1.cell? ⟨b, 1, none⟩ = some v := by rw [Lib.cell_of_heap hbk]; rfl
  have HT := Lib.hid ht
  have HB := Lib.hid hbuf
  have HS := Lib.hid hsz
  clear ht hbuf hsz HC
  go_wp2_with (at_builtin; refine app_u8 _ rfl _ _ rfl B v l.length l rfl (hown.alloc _) _ _ _ [c] rfl (Sl.lit_u8 _ _ _ HCI.out) (by simpa using hlen) (by have := HS.out; simp; omega) ?_)
  intro v' w2 hown' hgrow hown3
  have hltb : b < w1.heap.size := heap_lt hbk
  have hne := Lib.ownBlock_ne hown hbk (by decide)
  have hb2 : w2.heap[b]? = some (.cells #[.pointer (some ⟨b, 0, none⟩), v] 72 (0, 0)) := by
    rw [hgrow.block b (by simp; omega) (fun e => hne e.symm), Lib.alloc_old w1 _ b hltb]
    exact hbk
  have d0 : w2.cell? ⟨b, 0, none⟩ = some (.pointer (some ⟨b, 0, none⟩)) := by rw [Lib.cell_of_heap hb2]; rfl
  have d1 : w2.cell? ⟨b, 1, none⟩ = some v := by rw [Lib.cell_of_heap hb2]; rfl
  have f1 : w2.frozen? ⟨b, 1, none⟩ = false := Lib.frozen_of_heap hb2 1
  have hput := bd_put (l' := l ++ [c]) hB hlt0 (Nat.le_of_eq HS.out.symm) (fun k hk hkb hkv => by
      rw [hgrow.block k (by have := HS.out; simp; omega) hkv, Lib.alloc_old w1 _ k (by have := HS.out; omega)]
      exact HT.out.block k hk hkb (by rw [HB.out]; exact hkv))
    (hgrow.os.trans HT.out.os) (hgrow.tape.trans HT.out.tape) (hgrow.output.trans HT.out.output) (by have := hgrow.size; simp at this; omega) hb2
    (by simpa using hown') HB.out (fun e => by simp at e) (by
      rcases hown3 with e | e
      · exact .inl e
      · exact .inr ⟨_, e, by have := HS.out; simp; omega⟩)
  have HP := Lib.hid hput
  obtain ⟨g, cap, rfl, _⟩ := own_form hown' (by omega)
  clear hput hgrow hown' hown3 hown hne
  go_wp2
  go_ret
  exact ⟨rfl, HP.out⟩

/-- append(b, s...) at a string: the library's law, and where the new slice lies. -/
theorem run_app_str (w : World) (base : Nat) (v : Value) (l : List UInt8) (s : List UInt8) (hown : w.ownsRow base 5 1 v l.length (Lib.byteCells l))
    (hbytes : l.length + s.length ≤ 140737488355328) (hbase : base ≤ w.heap.size) (ty : TypeId) :
    ∃ v' w', (Builtin.append_ #[70, 9] ty #[v, .string ⟨s.toArray⟩]).run Try.prog w = .ok v' w' ∧ w'.ownsRow base 5 1 v' (l ++ s).length (Lib.byteCells (l ++ s)) ∧ w.grownBy w' v.ownBlock ∧
      (v'.ownBlock = v.ownBlock ∨ v'.ownBlock = some w.heap.size) ∧ (v = .slice none 0 0 → s = [] → v' = .slice none 0 0) := by
  obtain ⟨i0, hi, hz0, hz1, hz2⟩ := info_parts info_u8
  have hs : (⟨s.toArray⟩ : ByteArray).size = s.length := rfl
  obtain ⟨v', w', h1, h2, h3, h4⟩ := Lib.run_append_own_string (P := Try.prog) w base 70 9 ty 5 i0 Try.underlying70 Try.underlying9 hi hz0 hz1 hz2 v l.length _ hown ⟨s.toArray⟩ (by rw [hs]; unfold maxLen; omega) (by rw [hs]; omega) hbase
  refine ⟨v', w', h1, ?_, h3, ?_, fun e1 e2 => h4.2 ⟨e1, by rw [hs, e2]; rfl⟩⟩
  · rw [hs, Lib.strCells_eq, ← cells_bytes_append, ← List.length_append] at h2
    exact h2
  · rcases hown.2 with ⟨rfl, hl⟩ | ⟨g, cap, cur, rfl, hbg, hg, hnc, hcm, hcs, htake⟩
    · by_cases hm : s.length = 0
      · left
        have hf := Lib.run_firstCells_string (P := Try.prog) w 1 ⟨s.toArray⟩
        rw [hs, hm] at hf
        simp [Builtin.append_, run_underlying Try.underlying70, run_underlying Try.underlying9, sizeOf, typeInfo, hi, hz1, Builtin.lenOf, hs, hm, hf] at h1
        rw [← h1.1]
      · right
        have hr := run_append_nil_string (P := Try.prog) w 70 9 ty 5 i0 (.int .u8 0) Try.underlying70 Try.underlying9 hi hz0 ⟨s.toArray⟩ (by rw [hs]; omega) (by rw [hs]; omega) (by rw [hz2, hs]; omega)
        rw [hr] at h1
        injection h1 with h1 _
        rw [← h1]; rfl
    · by_cases hroom : l.length + s.length ≤ cap
      · left
        have hr := Lib.run_append_room_string (P := Try.prog) w 70 9 ty 5 i0 Try.underlying70 Try.underlying9 hi hz1 g l.length cap cur hg ⟨s.toArray⟩ hroom (by rw [hs]; omega)
        rw [hr] at h1
        injection h1 with h1 _
        rw [← h1]; rfl
      · right
        have hr := Lib.run_append_grow_string (P := Try.prog) w 70 9 ty 5 i0 (.int .u8 0) Try.underlying70 Try.underlying9 hi hz0 ⟨g, 0, none⟩ l.length cap (Lib.byteCells l) (by rw [hz1]; simpa using hown.1) (hown.cells (g := g) rfl) ⟨s.toArray⟩ (by rw [hs]; omega) (by rw [hs]; omega) (by rw [hz2, hs]; exact growslice_fits (by omega) (by omega))
        rw [hr] at h1
        injection h1 with h1 _
        rw [← h1]; rfl

theorem app_str (w : World) {ops : Array Oper} {rest : List Oper} {o : Oper} {a : Act} {Q : Exit → Act → World → Prop} (hgd : o.guard = none) (sl x : Operand)
    (ho : o.op = .call { callee := .builtin .append, args := #[sl, x], argTypes := #[70, 9] })
    (base : Nat) (v : Value) (l s : List UInt8) (hs : a.eval sl = v) (hown : w.ownsRow base 5 1 v l.length (Lib.byteCells l)) (hx : a.eval x = .string ⟨s.toArray⟩)
    (hbytes : l.length + s.length ≤ 140737488355328) (hbase : base ≤ w.heap.size)
    (h : ∀ v' w', w'.ownsRow base 5 1 v' (l ++ s).length (Lib.byteCells (l ++ s)) → w.grownBy w' v.ownBlock → (v'.ownBlock = v.ownBlock ∨ v'.ownBlock = some w.heap.size) → (v = .slice none 0 0 → s = [] → v' = .slice none 0 0) → wpList Try.prog ops Q rest (a.put o.dst v') w') :
    wpList Try.prog ops Q (o :: rest) a w := by
  refine wpList_plain hgd fun K hK => ?_
  obtain ⟨v', w', hr, h2, h3, h4, h5⟩ := run_app_str w base v l s hown hbytes hbase o.type
  unfold Oper.wp execOp
  simp only [ho, resolve, invoke, builtin, Sem.run_bind, Sem.run_pure, Result.andThen_ok, List.map_toArray, List.map_cons, List.map_nil, hs, hx, hr]
  exact hK _ _ (h v' w' h2 h3 h4 h5)

set_option maxHeartbeats 2000000 in
theorem wstr_any (b : Nat) (l : List UInt8) (B : Nat) (s : List UInt8) (w : World) (h : Bd b l B w) (hlen : l.length + s.length ≤ 140737488355328) :
    Calls Try.prog 53 #[.pointer (some ⟨b, 0, none⟩), .string ⟨s.toArray⟩] w fun e w' => e = .returned (.tuple #[.int .i64 s.length, .nilIface]) ∧ Bd b (l ++ s) B w' ∧ Touch b w w' ∧ (bufOf w' b = bufOf w b ∨ ∃ g, bufOf w' b = some g ∧ w.heap.size ≤ g) := by
  have hlt0 := h.lt
  have hB := h.1
  have HC := Lib.hid (copyCheck_any b l B w h)
  clear h
  go_enter Try.func53, Try.ntmps53
  go_wp2_with (go_at_call 75; refine HC.out.mono ?_)
  rintro e w1 ⟨rfl, v, hbk, hown, hbuf, hsz, ht, hnil⟩
  have HN := Lib.hid hnil
  clear hnil
  have c0 : w1.cell? ⟨b, 0, none⟩ = some (.pointer (some ⟨b, 0, none⟩)) := by rw [Lib.cell_of_heap hbk]; rfl
  have c1 : w1.cell? ⟨b, 1, none⟩ = some v := by rw [Lib.cell_of_heap hbk]; rfl
  have HT := Lib.hid ht
  have HB := Lib.hid hbuf
  have HS := Lib.hid hsz
  clear ht hbuf hsz HC
  go_wp2_with (at_builtin; refine app_str _ rfl _ _ rfl B v l s rfl hown rfl hlen (by have := HS.out; omega) ?_)
  intro v' w2 hown' hgrow hown3 hown4
  have hltb : b < w1.heap.size := heap_lt hbk
  have hne := Lib.ownBlock_ne hown hbk (by decide)
  have hb2 : w2.heap[b]? = some (.cells #[.pointer (some ⟨b, 0, none⟩), v] 72 (0, 0)) := by
    rw [hgrow.block b hltb (fun e => hne e.symm)]
    exact hbk
  have d0 : w2.cell? ⟨b, 0, none⟩ = some (.pointer (some ⟨b, 0, none⟩)) := by rw [Lib.cell_of_heap hb2]; rfl
  have d1 : w2.cell? ⟨b, 1, none⟩ = some v := by rw [Lib.cell_of_heap hb2]; rfl
  have f1 : w2.frozen? ⟨b, 1, none⟩ = false := Lib.frozen_of_heap hb2 1
  have hput := bd_put (l' := l ++ s) hB hlt0 (Nat.le_of_eq HS.out.symm) (fun k hk hkb hkv => by
      rw [hgrow.block k (by have := HS.out; omega) hkv]
      exact HT.out.block k hk hkb (by rw [HB.out]; exact hkv))
    (hgrow.os.trans HT.out.os) (hgrow.tape.trans HT.out.tape) (hgrow.output.trans HT.out.output) hgrow.size hb2
    (by simpa using hown') HB.out (fun e => by obtain ⟨e1, e2⟩ := List.append_eq_nil_iff.1 e; exact hown4 (HN.out e1) e2) (by
      rcases hown3 with e | e
      · exact .inl e
      · exact .inr ⟨_, e, by have := HS.out; omega⟩)
  have HP := Lib.hid hput
  obtain ⟨A, c, rfl, _⟩ := Sl.own hown'
  clear hput hgrow hown' hown3 hown4 hown hne
  go_wp2
  go_ret2
  exact ⟨rfl, HP.out⟩

/-- String at whatever the builder holds. (Behind it its buffer may be frozen: the builder is not told on.) -/
theorem Bd.is {b : Nat} {l : List UInt8} {B : Nat} {w : World} (h : Bd b l B w) : ∃ p v, w.heap[b]? = some (.cells #[p, v] 72 (0, 0)) ∧ w.ownsRow B 5 1 v l.length (Lib.byteCells l) ∧ (l = [] → v = .slice none 0 0) := by
  obtain ⟨_, p, v, _, h1, h2, h3⟩ := h
  exact ⟨p, v, h1, h2, h3⟩

theorem cellsByte : Try.prog.cellsOf 5 = 1 := by kernel_rfl

/-- what String leaves: new blocks, a draw, marks on its own buffer. -/
def Marked (b : Nat) (w w' : World) : Prop := w'.os = w.os ∧ w'.tape = w.tape ∧ w'.output = w.output ∧ w.heap.size ≤ w'.heap.size ∧ ∀ k, k < w.heap.size → some k ≠ bufOf w b → w'.heap[k]? = w.heap[k]?

set_option maxHeartbeats 2000000 in
theorem bstr_some (b : Nat) (x : UInt8) (r : List UInt8) (B : Nat) (w : World) (h : Bd b (x :: r) B w) :
    Calls Try.prog 56 #[.pointer (some ⟨b, 0, none⟩)] w fun e w' => e = .returned (.string ⟨(x :: r).toArray⟩) ∧ Marked b w w' := by
  have hbl := h.buf_lt
  obtain ⟨p, v, hbk, hown, _⟩ := h.is
  have hbuf := bufOf_eq hbk
  obtain ⟨g, cap, cur, rfl, hbg, hg, hnc, hcm, hcs, htake⟩ : ∃ g cap cur, v = .slice (some ⟨g, 0, none⟩) (x :: r).length cap ∧ B ≤ g ∧ w.heap[g]? = some (.cells cur 5 (0, 0)) ∧ (x :: r).length ≤ cap ∧ cap ≤ maxLen ∧ cur.size = cap * 1 ∧ cur.toList.take ((x :: r).length * 1) = Lib.byteCells (x :: r) := by
    rcases hown.2 with ⟨_, hz⟩ | ⟨g, cap, cur, hv, rr⟩
    · simp at hz
    · exact ⟨g, cap, cur, hv, rr⟩
  have c1 : w.drew.cell? ⟨b, 1, none⟩ = some (.slice (some ⟨g, 0, none⟩) (x :: r).length cap) := by
    have : w.drew.heap[b]? = some (.cells #[p, .slice (some ⟨g, 0, none⟩) (x :: r).length cap] 72 (0, 0)) := hbk
    rw [Lib.cell_of_heap this]; rfl
  have hSD : (Builtin.unsafeSliceData_ #[70] 97 #[.slice (some ⟨g, 0, none⟩) (x :: r).length cap]).run Try.prog w.drew = .ok (.pointer (some ⟨g, 0, none⟩)) w.drew :=
    Lib.run_unsafeSliceData_row _ _ _ _ _ _ (by simp at hnc; omega)
  have hUS : (Builtin.unsafeString_ #[97, 3] 9 #[.pointer (some ⟨g, 0, none⟩), .int .i64 (x :: r).length]).run Try.prog w.drew = .ok (.string ⟨(x :: r).toArray⟩) (w.drew.freeze ⟨g, 0, none⟩ (x :: r).length) := by
    refine Lib.run_unsafeString_row w.drew _ _ _ 5 Try.underlying97 cellsByte g cur.size (by have hg' : w.drew.heap[g]? = some (.cells cur 5 (0, 0)) := hg; simp [World.shape?, hg']) (x :: r) (by simp) (by omega) (by unfold maxLen at hcm; omega) ?_
    intro j y hy
    exact hown.cells (g := g) rfl j (.int .u8 y.toNat) (by simp only [Lib.byteCells, List.getElem?_map, hy]; rfl)
  have hM : Marked b w (w.drew.freeze ⟨g, 0, none⟩ (x :: r).length) := by
    refine ⟨by unfold World.freeze; split <;> rfl, by unfold World.freeze; split <;> rfl, by unfold World.freeze; split <;> rfl, by unfold World.freeze; split <;> simp, fun k hk hne => ?_⟩
    unfold World.freeze
    split
    · rfl
    · simp only [Array.getElem?_modify]
      rw [if_neg]
      · rfl
      · intro e
        apply hne
        rw [hbuf, ← e]
        rfl
  have HM := Lib.hid hM
  generalize hL : (x :: r) = l at *
  clear hL hM hbuf hbl hown hg hnc hcm hcs htake hbk
  go_enter Try.func56, Try.ntmps56
  go_wp2
  go_region
  all_goals (go_wp2; go_ret; exact ⟨rfl, HM.out⟩)

set_option maxHeartbeats 2000000 in
theorem bstr_none (b : Nat) (B : Nat) (w : World) (h : Bd b [] B w) :
    Calls Try.prog 56 #[.pointer (some ⟨b, 0, none⟩)] w fun e w' => e = .returned (.string ⟨#[]⟩) ∧ Marked b w w' := by
  obtain ⟨p, v, hbk, hown, hnil⟩ := h.is
  obtain rfl := hnil rfl
  have hUS : ∀ W : World, (Builtin.unsafeString_ #[97, 3] 9 #[.pointer none, .int .i64 0]).run Try.prog W = .ok (.string .empty) W := fun W => Lib.run_unsafeString_none W _ _ _ none
  have c1 : w.drew.cell? ⟨b, 1, none⟩ = some (.slice none 0 0) := by
    have : w.drew.heap[b]? = some (.cells #[p, .slice none 0 0] 72 (0, 0)) := hbk
    rw [Lib.cell_of_heap this]; rfl
  have hSD : (Builtin.unsafeSliceData_ #[70] 97 #[.slice none 0 0]).run Try.prog w.drew = .ok (.pointer none) w.drew := rfl
  clear hbk hown hnil h
  go_enter Try.func56, Try.ntmps56
  go_wp2
  go_region
  all_goals (go_wp2; go_ret; exact ⟨rfl, rfl, rfl, rfl, Nat.le_refl _, fun _ _ _ => rfl⟩)

/-- (*strings.Builder).String -/
theorem bstr_any (b : Nat) (l : List UInt8) (B : Nat) (w : World) (h : Bd b l B w) :
    Calls Try.prog 56 #[.pointer (some ⟨b, 0, none⟩)] w fun e w' => e = .returned (.string ⟨l.toArray⟩) ∧ Marked b w w' := by
  cases l with
  | nil => exact bstr_none b B w h
  | cons x r => exact bstr_some b x r B w h

theorem Marked.below {b B : Nat} {l : List UInt8} {w0 w w' : World} (hm : Marked b w w') (h : Bd b l B w) (hb : Below B w0 w) : Below B w0 w' :=
  hb.trans ⟨hm.1, hm.2.1, hm.2.2.1, hm.2.2.2.1, fun k hk => by
    have hlt : k < w.heap.size := by have := h.lt; have := h.1; omega
    refine hm.2.2.2.2 k hlt ?_
    intro e
    have := (h.buf_lt k e.symm).1
    omega⟩
theorem Bd.marked {b c : Nat} {l : List UInt8} {B : Nat} {w w' : World} (h : Bd b l B w) (hd : ∀ g, bufOf w b = some g → bufOf w c ≠ some g) (hc : ∀ g, bufOf w c = some g → g ≠ b) (hm : Marked c w w') : Bd b l B w' ∧ bufOf w' b = bufOf w b :=
  h.keep (hm.2.2.2.2 b h.lt (fun e => hc b e.symm rfl)) (fun g hg => hm.2.2.2.2 g (h.buf_lt g hg).2.1 (fun e => hd g hg e.symm))
end Go.Proofs.Ytljfolepmkcjlaa
