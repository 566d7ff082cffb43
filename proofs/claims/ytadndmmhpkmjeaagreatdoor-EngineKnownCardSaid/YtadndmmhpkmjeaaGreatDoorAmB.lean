/-
  Texts that the claim leans on, one behind the other: AmSound7, AmSound8, AmSound9, AmCall, AmMap, AmRef, AmRef2, AmRef3, AmRef4.
-/
import Derived.Test.YtadndmmhpkmjeaaGreatDoorAmA
import Derived.Laws.StructEq
import Derived.MapKept

/-
  The abstract machine: each operation is sound (append, make).
-/
namespace Go.Am
set_option linter.unusedSectionVars false
variable {P : Program} [Gl]

theorem RowOf.mono {κ κ' : Kap} {h h' : Heap} (hm : ∀ b, κ b = .imm → κ' b = .imm ∧ h'[b]? = h[b]?) {X : Array Value} {sz : Nat} {els : List DV} (r : RowOf κ h X sz els) : RowOf κ' h' X sz els :=
  ⟨r.1, r.2.1, r.2.2.1, fun i x j y v hx hy hv => (r.2.2.2 i x j y v hx hy hv).mono hm⟩

/-- Two rows, one behind the other, ahead of whatever. -/
theorem EL_two {κ : Kap} {h : Heap} {c : Array Value} {sz : Nat} {els xs : List DV} {X : Array Value} (he : EL κ h c 0 sz els) (hX : RowOf κ h X sz xs)
    (hs : (els.length + xs.length) * sz ≤ c.size) : EL κ h (splA c (els.length * sz) X.toList) 0 sz (els ++ xs) := by
  obtain ⟨e1, e2, e3⟩ := he
  obtain ⟨x1, x2, x3, x4⟩ := hX
  have hb : els.length * sz + X.toList.length ≤ c.size := by rw [Nat.add_mul] at hs; simp; omega
  refine ⟨fun x hx => ?_, by rw [splA_size _ _ _ hb]; simpa using hs, fun i x j y v hx hy hv => ?_⟩
  · rcases List.mem_append.1 hx with hx | hx
    · exact e1 x hx
    · exact x3 x hx
  · rw [splA_get _ _ _ hb] at hv
    simp only [Nat.zero_add] at hv
    by_cases hi : i < els.length
    · rw [List.getElem?_append_left hi] at hx
      have hj : j < sz := by have := (List.getElem?_eq_some_iff.1 hy).1; have := (e1 x (List.mem_iff_getElem?.2 ⟨i, hx⟩)).1; omega
      have := Nat.mul_le_mul_right sz (show i + 1 ≤ els.length from hi)
      rw [Nat.add_mul] at this
      rw [if_pos (by omega)] at hv
      exact e3 i x j y v hx hy (by simpa using hv)
    · rw [List.getElem?_append_right (by omega)] at hx
      have hj : j < sz := by have := (List.getElem?_eq_some_iff.1 hy).1; have := (x3 x (List.mem_iff_getElem?.2 ⟨_, hx⟩)).1; omega
      have hlt := (List.getElem?_eq_some_iff.1 hx).1
      have hle := Nat.mul_le_mul_right sz (show (i - els.length) + 1 ≤ xs.length from hlt)
      have hexp : i * sz = els.length * sz + (i - els.length) * sz := by rw [← Nat.add_mul]; congr 1; omega
      rw [Nat.add_mul] at hle
      rw [if_neg (by omega), if_pos (by simp; omega)] at hv
      refine x4 (i - els.length) x j y v hx hy ?_
      rw [Array.getElem?_toList] at hv
      rw [← hv]; congr 1; omega

theorem EL_rows {κ : Kap} {h : Heap} {sz : Nat} {els xs : List DV} {X Y R : Array Value} (hY : RowOf κ h Y sz els) (hX : RowOf κ h X sz xs) :
    EL κ h (Y ++ X ++ R) 0 sz (els ++ xs) := by
  obtain ⟨y1, y2, y3, y4⟩ := hY
  obtain ⟨x1, x2, x3, x4⟩ := hX
  refine ⟨fun x hx => ?_, by simp [y1, x1, Nat.add_mul], fun i x j y v hx hy hv => ?_⟩
  · rcases List.mem_append.1 hx with hx | hx
    · exact y3 x hx
    · exact x3 x hx
  · simp only [Nat.zero_add] at hv
    by_cases hi : i < els.length
    · rw [List.getElem?_append_left hi] at hx
      have hj : j < sz := by have := (List.getElem?_eq_some_iff.1 hy).1; have := (y3 x (List.mem_iff_getElem?.2 ⟨i, hx⟩)).1; omega
      have := Nat.mul_le_mul_right sz (show i + 1 ≤ els.length from hi)
      rw [Nat.add_mul] at this
      rw [Array.append_assoc, Array.getElem?_append_left (by omega)] at hv
      exact y4 i x j y v hx hy hv
    · rw [List.getElem?_append_right (by omega)] at hx
      have hj : j < sz := by have := (List.getElem?_eq_some_iff.1 hy).1; have := (x3 x (List.mem_iff_getElem?.2 ⟨_, hx⟩)).1; omega
      have hlt := (List.getElem?_eq_some_iff.1 hx).1
      have hle := Nat.mul_le_mul_right sz (show (i - els.length) + 1 ≤ xs.length from hlt)
      have hexp : i * sz = els.length * sz + (i - els.length) * sz := by rw [← Nat.add_mul]; congr 1; omega
      rw [Nat.add_mul] at hle
      rw [Array.append_assoc, Array.getElem?_append_right (by omega), Array.getElem?_append_left (by omega)] at hv
      refine x4 (i - els.length) x j y v hx hy ?_
      rw [← hv]; congr 1; omega

theorem growBy_le (n : Nat) : ∀ (k c : Nat), c ≤ n → Builtin.growBy n k c ≤ 2 * n + 768
  | 0, c, h => by simp [Builtin.growBy]; omega
  | k + 1, c, h => by
    simp only [Builtin.growBy]
    split
    · omega
    · rename_i hlt
      by_cases h2 : c + (c + 768) / 4 ≤ n
      · exact growBy_le n k _ h2
      · have : Builtin.growBy n k (c + (c + 768) / 4) = c + (c + 768) / 4 := by
          cases k with
          | zero => rfl
          | succ k => simp only [Builtin.growBy]; rw [if_pos (by omega)]
        rw [this]; omega

theorem nextcap_le (need cap : Nat) (h : cap < need) : Builtin.nextslicecap need cap ≤ 2 * need + 768 := by
  unfold Builtin.nextslicecap
  split
  · omega
  · split
    · omega
    · exact growBy_le need 4 cap (by omega)

theorem bytes_of {t z : Nat} (h : (Env.of P).bytes t = some z) : ∃ i, P.info? t = some i ∧ i.bytes = z := by
  simp only [Env.of] at h
  cases e : P.info? t with
  | none => rw [e] at h; simp at h
  | some i => rw [e] at h; exact ⟨i, rfl, by simpa using h⟩

theorem run_typeInfo_bytes {t z : Nat} (h : (Env.of P).bytes t = some z) (w : World) : ∃ i, (typeInfo t).run P w = .ok i w ∧ i.bytes = z := by
  obtain ⟨i, hi, rfl⟩ := bytes_of h
  exact ⟨i, by simp [typeInfo, hi], rfl⟩

theorem pow38 : (2 : Nat) ^ 38 = 274877906944 := by decide
theorem pow48 : (2 : Nat) ^ 48 = 281474976710656 := by decide
theorem maxI : IntKind.i64.max = 9223372036854775807 := by decide

section
variable {w : World} {e z by_ t t2 len n : Nat} {base : Option Addr} {cap : Nat} {vx : Value} {X : Array Value} {dt2 : TypeDesc}
  (hu : (Env.of P).und t = some (.slice e)) (hu2 : (Env.of P).und t2 = some dt2) (hni : ∀ k, dt2 ≠ .int k) (hz : (Env.of P).size e = some z)
  (hl : (Builtin.lenOf vx).run P w = .ok n w) (hX : (Builtin.firstCells z n vx).run P w = .ok X w)
include hu hu2 hni hz hl hX

theorem run_append_none (hfit : len + n ≤ cap) (hb : base = none ∨ n = 0 ∧ X = #[]) :
    (Builtin.append_ #[t, t2] t #[.slice base len cap, vx]).run P w = .ok (.slice base (len + n) cap) w := by
  simp only [Builtin.append_]
  rw [show (#[t, t2] : Array TypeId)[0]? = some t from rfl, show (#[t, t2] : Array TypeId)[1]? = some t2 from rfl,
    show (#[Value.slice base len cap, vx] : Array Value)[0]? = some (.slice base len cap) from rfl, show (#[Value.slice base len cap, vx] : Array Value)[1]? = some vx from rfl]
  have _ := hni
  have _ := hX
  simp only [Sem.run_bind, run_und hu, Result.andThen_ok, run_sizeOf' hz, run_und hu2, Sem.run_pure, Bool.false_eq_true, if_false, hl]
  rw [if_pos hfit]
  simp only [Bool.not_false, if_true, Sem.run_bind, hX, Result.andThen_ok]
  rcases hb with rfl | ⟨_, rfl⟩
  · simp
  · cases base <;> simp [storeCells]

theorem run_append_fit {b : Nat} {c : Array Value} {ty : TypeId} {fz : Nat × Nat} (hfit : len + n ≤ cap) (hb : w.heap[b]? = some (.cells c ty fz)) (hf : FzOk fz c.size)
    (hs : len * z + X.size ≤ c.size) (h1 : ∀ v ∈ X, v.oneCell = true) :
    (Builtin.append_ #[t, t2] t #[.slice (some ⟨b, 0, none⟩) len cap, vx]).run P w = .ok (.slice (some ⟨b, 0, none⟩) (len + n) cap) (World.row w b (.cells (splA c (len * z) X.toList) ty fz)) := by
  simp only [Builtin.append_]
  rw [show (#[t, t2] : Array TypeId)[0]? = some t from rfl, show (#[t, t2] : Array TypeId)[1]? = some t2 from rfl,
    show (#[Value.slice (some ⟨b, 0, none⟩) len cap, vx] : Array Value)[0]? = some (.slice (some ⟨b, 0, none⟩) len cap) from rfl, show (#[Value.slice (some ⟨b, 0, none⟩) len cap, vx] : Array Value)[1]? = some vx from rfl]
  have _ := hni
  have _ := hX
  simp only [Sem.run_bind, run_und hu, Result.andThen_ok, run_sizeOf' hz, run_und hu2, Sem.run_pure, Bool.false_eq_true, if_false, hl]
  rw [if_pos hfit]
  have := run_storeCells_any (P := P) b (len * z) ty fz X.toList 0 c w hb hf (by simpa using hs) (by simpa using h1)
  simp only [Bool.not_false, if_true, Sem.run_bind, hX, Result.andThen_ok, add_at, Nat.zero_add]
  rw [this]
  simp

theorem run_append_grow {zv : Value} {Y : Array Value} (hby : (Env.of P).bytes e = some by_) (hb1 : 1 ≤ by_) (hroom : (len + n) * by_ ≤ 2 ^ 38) (hfit : ¬ len + n ≤ cap)
    (hzv : (zeroValue e).run P { w with drawn := w.drawn + 1 } = .ok zv { w with drawn := w.drawn + 1 })
    (hX' : (Builtin.firstCells z n vx).run P { w with drawn := w.drawn + 1 } = .ok X { w with drawn := w.drawn + 1 })
    (hY : (Builtin.firstCells z len (.slice base len cap)).run P { w with drawn := w.drawn + 1 } = .ok Y { w with drawn := w.drawn + 1 }) :
    ∃ newCap R, len + n ≤ newCap ∧ R.size = (newCap - (len + n)) * zv.cells.size ∧ (Builtin.append_ #[t, t2] t #[.slice base len cap, vx]).run P w =
      .ok (.slice (some ⟨w.heap.size, 0, none⟩) (len + n) newCap) { w with drawn := w.drawn + 1, heap := w.heap.push (.cells (Y ++ X ++ R) e (0, 0)) } := by
  obtain ⟨ti, hti, htib⟩ := run_typeInfo_bytes hby w
  obtain ⟨ti', hti', htib'⟩ := run_typeInfo_bytes hby { w with drawn := w.drawn + 1 }
  have hle : len + n ≤ (len + n) * by_ := Nat.le_mul_of_pos_right _ hb1
  have p38 := pow38
  have hmaxl : ¬ (((len + n : Nat) : Int) > IntKind.i64.max) := by rw [maxI]; omega
  have hnext := nextcap_le (len + n) cap (by omega)
  have hnb : ¬ (Builtin.nextslicecap (len + n) cap * by_ > 2 ^ 48) := by
    have h4 := Nat.mul_le_mul_right by_ hnext
    have h5 : (2 * (len + n) + 768) * by_ ≤ 770 * ((len + n) * by_) := by
      have : 2 * (len + n) + 768 ≤ 770 * (len + n) := by omega
      have := Nat.mul_le_mul_right by_ this
      rw [Nat.mul_assoc 770] at this; exact this
    rw [pow48]; omega
  refine ⟨(len + n) + w.tape w.drawn (.appendCap (len + n) cap e) % (2 ^ 63 - (len + n)), Builtin.zeroCells zv.cells ((len + n) + w.tape w.drawn (.appendCap (len + n) cap e) % (2 ^ 63 - (len + n)) - (len + n)), by omega, by simp [Builtin.zeroCells], ?_⟩
  simp only [Builtin.append_]
  rw [show (#[t, t2] : Array TypeId)[0]? = some t from rfl, show (#[t, t2] : Array TypeId)[1]? = some t2 from rfl,
    show (#[Value.slice base len cap, vx] : Array Value)[0]? = some (.slice base len cap) from rfl, show (#[Value.slice base len cap, vx] : Array Value)[1]? = some vx from rfl]
  have _ := hni
  have _ := hX
  simp only [Sem.run_bind, run_und hu, Result.andThen_ok, run_sizeOf' hz, run_und hu2, Sem.run_pure, Bool.false_eq_true, if_false, hl]
  rw [if_neg hfit]
  simp only [Sem.run_bind, hti, Result.andThen_ok, htib]
  rw [if_neg (fun h => hmaxl h.1)]
  simp only [Sem.run_bind, hti, Result.andThen_ok, htib]
  rw [if_neg hnb]
  simp only [Sem.run_bind, run_choose, Question.forced, Question.cut, Bool.false_eq_true, if_false, Result.andThen_ok, hti', run_askRoom, hY, hX', Bool.not_false, if_true, hzv, newRow, run_newObj, Sem.run_pure]
end

theorem zeroOk_of {e z : Nat} (h : zeroOk (Env.of P) e z = true) (w : World) : ∃ v, (zeroValue e).run P w = .ok v w ∧ v.cells.size = z := by
  unfold zeroOk at h
  cases hz : (Env.of P).zero e with
  | none => rw [hz] at h; simp at h
  | some x =>
    rw [hz] at h
    obtain ⟨v, h1, h2⟩ := run_zeroValue hz w
    exact ⟨v, h1, by have := (ofVal_DR (κ := fun _ => .oth) (h := #[]) h2).cells.1; have := nbE h; omega⟩

/-- A slice of one's own, whose object is gone already, or a slice without room: what an append makes of it. -/
theorem append_core {κ : Kap} {φ : Phi} {w : World} {s : SSt} {a : Act} (F : FRel κ φ w s a) {d e z by_ t t2 : Nat} {els xs : List DV} {base : Option Addr} {cap : Nat} {vx : Value} {X : Array Value} {dt2 : TypeDesc}
    (hd : s.O d = none) (hu : (Env.of P).und t = some (.slice e)) (hu2 : (Env.of P).und t2 = some dt2) (hni : ∀ k, dt2 ≠ .int k) (hz : (Env.of P).size e = some z) (hby : (Env.of P).bytes e = some by_)
    (hze : zeroOk (Env.of P) e z = true) (h1 : 1 ≤ z) (hb1 : 1 ≤ by_)
    (hroom : (els.length + xs.length) * by_ ≤ 2 ^ 38) (hsl : SlOk κ w.heap (.slice base els.length cap) z els)
    (hl : (Builtin.lenOf vx).run P w = .ok xs.length w) (hX : ∀ w' : World, w'.heap = w.heap → (Builtin.firstCells z xs.length vx).run P w' = .ok X w') (hrow : RowOf κ w.heap X z xs)
    (hmode : (cap = els.length ∧ (els = [] ∨ xs ≠ [])) ∨ ∃ b c fz i, base = some ⟨b, 0, none⟩ ∧ κ b = .own i ∧ i ≠ d ∧ s.O i = some .gone ∧ w.heap[b]? = some (.cells c e fz) ∧ FzOk fz c.size ∧ cap * z ≤ c.size ∧ EL κ w.heap c 0 z els) :
    Out P κ φ w s a (.own d z) [(d, .arr e z (els ++ xs))] (Builtin.append_ #[t, t2] t #[.slice base els.length cap, vx]) := by
  have hun : φ d = .un := by have := F.objs d; rw [hd] at this; exact this
  have hlen : (els ++ xs).length = els.length + xs.length := by simp
  have grow : ¬ els.length + xs.length ≤ cap → Out P κ φ w s a (.own d z) [(d, .arr e z (els ++ xs))] (Builtin.append_ #[t, t2] t #[.slice base els.length cap, vx]) := by
    intro hfit
    obtain ⟨zv, hzv, hzs⟩ := zeroOk_of hze { w with drawn := w.drawn + 1 }
    have hYr : ∃ Y, (Builtin.firstCells z els.length (.slice base els.length cap)).run P { w with drawn := w.drawn + 1 } = .ok Y { w with drawn := w.drawn + 1 } ∧ RowOf κ w.heap Y z els := by
      obtain ⟨base', cap', e1, _, hs⟩ := hsl
      injection e1 with e1 e2 e3; subst e1
      by_cases he : els = []
      · subst he
        refine ⟨#[], ?_, RowOf.nil⟩
        cases base with
        | none => rfl
        | some b => simp [Builtin.firstCells, loadCells, loadCellsFrom]
      · rcases hs with hs | ⟨b, off, cc, ty, fz, rfl, hb, hel, hsz⟩
        · exact absurd hs he
        · exact ⟨_, by simp only [Builtin.firstCells]; exact run_loadCells_at (w := { w with drawn := w.drawn + 1 }) hb hel.2.1, hel.row h1⟩
    obtain ⟨Y, hY, hYrow⟩ := hYr
    obtain ⟨newCap, R, g1, g2, g3⟩ := run_append_grow (len := els.length) (n := xs.length) (cap := cap) (base := base) hu hu2 hni hz hl (hX w rfl) hby hb1 hroom hfit hzv (hX { w with drawn := w.drawn + 1 } rfl) hY
    have hsize : (Y ++ X ++ R).size = newCap * z := by
      simp only [Array.size_append, hYrow.1, hrow.1, g2, hzs]
      rw [← Nat.add_mul, ← Nat.add_mul]; congr 1; omega
    obtain ⟨q1, q2, q3⟩ := F.alloc (i := d) (p := .arr e z (els ++ xs)) (o := .cells (Y ++ X ++ R) e (0, 0)) (w' := { w with drawn := w.drawn + 1, heap := w.heap.push (.cells (Y ++ X ++ R) e (0, 0)) }) rfl hd
      (fun M => .inr ⟨_, _, (0, 0), setP_same _ _ _, setK_same _ _ _, heap_push_eq _ _, fzOk00 _, EL_rows (hYrow.mono M.imm) (hrow.mono M.imm)⟩)
    refine ⟨_, _, _, setP φ d (.at w.heap.size), g3, q1, ?_, q3, q2.kp⟩
    exact .own (setP_same _ _ _) (heap_push_eq _ _) (by rw [hsize]; exact Nat.le_refl _) g1 (fun n hn => by
      have : PObj.len? (setT s.O d (some (.arr e z (els ++ xs))) d) = some n := hn
      rw [setT_same] at this; simp [PObj.len?] at this; omega)
  rcases hmode with ⟨hcap, hor⟩ | ⟨b, c, fz, i, rfl, hκ, hid, hgone, hb, hfz, hcs, hel⟩
  · by_cases hxs : xs = []
    · subst hxs
      have he : els = [] := by rcases hor with h | h; exact h; exact absurd rfl h
      subst he
      simp only [List.length_nil] at hcap; subst hcap
      have hX0 : X = #[] := Array.eq_empty_of_size_eq_zero (by have := hrow.1; simpa using this)
      have hrun := run_append_none (len := 0) (n := 0) (cap := 0) (base := base) hu hu2 hni hz hl (hX w rfl) (Nat.le_refl _) (.inr ⟨rfl, hX0⟩)
      obtain ⟨q1, q2, q3⟩ := F.upd1 (i := d) (p := .arr e z ([] ++ [])) (κ' := κ) (φ' := setP φ d .nil) (w' := w) (Nat.le_refl _) (fun _ h => h) (fun _ _ _ _ h => h) (fun _ _ h => h) (fun _ _ _ _ => rfl)
        (fun j hj => setP_ne _ _ hj) (fun h => absurd hun h) (fun _ c _ fz hc => ⟨c, fz, hc, rfl⟩) (fun h => absurd hun h) F.bnd.lt (fun M => .inl ⟨setP_same _ _ _, rfl⟩)
      exact ⟨_, _, κ, setP φ d .nil, hrun, q1, .ownNil (setP_same _ _ _), q3, q2.kp⟩
    · refine grow ?_
      have : 0 < xs.length := List.length_pos_iff.2 hxs
      omega
  · by_cases hfit : els.length + xs.length ≤ cap
    · have hle := Nat.mul_le_mul_right z hfit
      rw [Nat.add_mul] at hle
      have hXs := hrow.1
      have hrun := run_append_fit (len := els.length) (n := xs.length) (cap := cap) hu hu2 hni hz hl (hX w rfl) hfit hb hfz (by omega) hrow.2.1
      have hsize : (splA c (els.length * z) X.toList).size = c.size := splA_size _ _ _ (by simp; omega)
      obtain ⟨q1, q2, q3⟩ := F.upd1 (i := d) (p := .arr e z (els ++ xs)) (κ' := setK κ b (.own d)) (φ' := setP φ d (.at b)) (w' := World.row w b (.cells (splA c (els.length * z) X.toList) e fz))
        (by simp [World.row]) (fun x hx => by rw [setK_ne _ _ (fun e => by subst e; rw [hκ] at hx; cases hx)]; exact hx)
        (fun x j hj hg hx => by rw [setK_ne _ _ (fun e => by subst e; rw [hκ] at hx; injection hx with hx; subst hx; exact hg hgone)]; exact hx)
        (fun x _ hx => by rw [setK_ne _ _ (fun e => by subst e; rw [hκ] at hx; cases hx)]; exact hx)
        (fun x hx _ hg => row_heap_ne _ _ (fun e => by subst e; exact hg i hκ hgone))
        (fun j hj => setP_ne _ _ hj) (fun h => absurd hun h)
        (fun x c0 ty0 fz0 hc0 => by
          by_cases e : x = b
          · subst e; rw [hb] at hc0; injection hc0 with hc0; injection hc0 with e1 e2 e3; subst e1; subst e2
            exact ⟨_, _, row_heap hb, hsize⟩
          · exact ⟨c0, fz0, by rw [row_heap_ne _ _ e]; exact hc0, rfl⟩)
        (fun h => absurd hun h)
        (fun x hx => by
          simp only [World.row, Array.size_setIfInBounds]
          by_cases e : x = b
          · subst e; exact lt_of_get hb
          · rw [setK_ne _ _ e] at hx; exact F.bnd.lt x hx)
        (fun M => .inr ⟨b, _, fz, setP_same _ _ _, setK_same _ _ _, row_heap hb, by rw [hsize]; exact hfz, EL_two (hel.mono M.imm) (hrow.mono M.imm) (by rw [Nat.add_mul]; omega)⟩)
      refine ⟨_, _, _, setP φ d (.at b), hrun, q1, ?_, q3, q2.kp⟩
      exact .own (setP_same _ _ _) (row_heap hb) (by rw [hsize]; exact hcs) hfit (fun n hn => by
        have : PObj.len? (setT s.O d (some (.arr e z (els ++ xs))) d) = some n := hn
        rw [setT_same] at this; simp [PObj.len?] at this; omega)
    · exact grow hfit


theorem append_ok {κ : Kap} {φ : Phi} {w : World} {s : SSt} {a : Act} (F : FRel κ φ w s a) {sl t t2 : Nat} {x y : RV} {v vx : Value} {dt2 : TypeDesc} {res : Res}
    (hx : exAppend (Env.of P) s.O sl t x y = some res) (hc : ∀ b ∈ res.conds, b = true) (hu2 : (Env.of P).und t2 = some dt2) (hni : ∀ k, dt2 ≠ .int k)
    (r : RVR κ φ s.O w.heap x v) (r2 : RVR κ φ s.O w.heap y vx) : Out P κ φ w s a res.val res.upd (Builtin.append_ #[t, t2] t #[v, vx]) := by
  unfold exAppend at hx
  cases hu : (Env.of P).und t with
  | none => rw [hu] at hx; simp at hx
  | some dd =>
    rw [hu] at hx
    cases dd <;> (try simp only at hx) <;> try (simp at hx; done)
    rename_i e
    cases hz : (Env.of P).size e with
    | none => rw [hz] at hx; simp at hx
    | some z =>
      cases hby : (Env.of P).bytes e with
      | none => rw [hz, hby] at hx; simp at hx
      | some by_ =>
        cases hsrc : srcEls s.O y with
        | none => rw [hz, hby, hsrc] at hx; simp at hx
        | some p3 =>
          obtain ⟨sx, xs, cx⟩ := p3
          rw [hz, hby, hsrc] at hx; simp only at hx
          cases hg : ((Nat.beq sx z || xs.isEmpty) && Nat.ble 1 z && Nat.ble 1 by_ && zeroOk (Env.of P) e z) with
          | false => rw [hg] at hx; simp at hx
          | true =>
            rw [hg] at hx; simp only [cond_true] at hx
            simp only [Bool.and_eq_true] at hg
            obtain ⟨⟨⟨g1, g2⟩, g3⟩, g4⟩ := hg
            have g2 := Nat.le_of_ble_eq_true g2
            have g3 := Nat.le_of_ble_eq_true g3
            -- what the three forms share
            have src : (∀ b ∈ cx, b = true) → ∃ X, (∀ w' : World, w'.heap = w.heap → (Builtin.lenOf vx).run P w' = .ok xs.length w' ∧ (Builtin.firstCells z xs.length vx).run P w' = .ok X w') ∧ RowOf κ w.heap X z xs :=
              fun hcx => firstCells_ok F hsrc hcx r2 g1 g2
            have own : ∀ (i d : Nat) (els : List DV) (base : Option Addr) (cap : Nat), i ≠ d → s.O d = none → φ i ≠ .un → (∀ b ∈ cx, b = true) → (els.length + xs.length) * by_ ≤ 2 ^ 38 → SlOk κ w.heap (.slice base els.length cap) z els →
                ((cap = els.length ∧ els = []) ∨ ∃ b c fz, base = some ⟨b, 0, none⟩ ∧ κ b = .own i ∧ w.heap[b]? = some (.cells c e fz) ∧ FzOk fz c.size ∧ cap * z ≤ c.size ∧ EL κ w.heap c 0 z els) →
                Out P κ φ w s a (.own d z) [(i, .gone), (d, .arr e z (els ++ xs))] (Builtin.append_ #[t, t2] t #[.slice base els.length cap, vx]) := by
              intro i d els base cap hid hd hφi hcx hroom hsl hmode
              obtain ⟨X, hX, hrow⟩ := src hcx
              obtain ⟨F1, M1, R1⟩ := F.gone i hφi
              have hd1 : setT s.O i (some .gone) d = none := by rw [setT_ne _ _ (fun e => hid e.symm)]; exact hd
              obtain ⟨v', w', κ', φ', o1, o2, o3, o4⟩ := append_core F1 (d := d) (t := t) (t2 := t2) hd1 hu hu2 hni hz hby g4 g2 g3 hroom hsl (hX w rfl).1 (fun w' hw => (hX w' hw).2) hrow
                (by rcases hmode with ⟨m1, m2⟩ | ⟨b, c, fz, m1, m2, m3, m4, m5, m6⟩
                    · exact .inl ⟨m1, .inl m2⟩
                    · exact .inr ⟨b, c, fz, i, m1, m2, hid, setT_same _ _ _, m3, m4, m5, m6⟩)
              exact ⟨v', w', κ', φ', o1, o2, o3, R1.trans o4.1, M1.kp.trans o4.2⟩
            cases x <;> (try simp only at hx) <;> try (simp at hx; done)
            case d q =>
              cases q <;> (try simp only at hx) <;> try (simp at hx; done)
              rename_i sz els full
              cases full <;> (try simp only at hx) <;> try (simp at hx; done)
              cases hzz : (Nat.beq sz z || els.isEmpty) with
              | false => rw [hzz] at hx; simp at hx
              | true =>
                rw [hzz] at hx; simp only [cond_true] at hx
                cases hO : s.O sl with
                | some p => rw [hO] at hx; simp at hx
                | none =>
                  rw [hO] at hx; simp only [Option.some.injEq] at hx; subst hx
                  obtain ⟨X, hX, hrow⟩ := src (fun b hb => hc b (by simp [hb]))
                  have hroom : (els.length + xs.length) * by_ ≤ 2 ^ 38 := by simpa using hc (decide ((els.length + xs.length) * by_ ≤ 2 ^ 38)) (by simp)
                  have hne : (els.isEmpty || !xs.isEmpty) = true := hc _ (by simp)
                  have hor : els = [] ∨ xs ≠ [] := by
                    simp only [Bool.or_eq_true] at hne
                    rcases hne with hne | hne
                    · left; simpa using hne
                    · right; intro e; subst e; simp at hne
                  have hsl : SlOk κ w.heap v z els ∧ ∃ base cap, v = .slice base els.length cap ∧ cap = els.length := by
                    cases r with
                    | d hr =>
                      have h1 := hr.slOk
                      refine ⟨?_, ?_⟩
                      · by_cases he : els = []
                        · subst he; obtain ⟨base, cap, e1, e2, _⟩ := h1; exact ⟨base, cap, e1, e2, .inl rfl⟩
                        · have : sz = z := by
                            simp only [Bool.or_eq_true] at hzz
                            rcases hzz with h | h
                            · exact nbE h
                            · exact absurd (by simpa using h) he
                          subst this; exact h1
                      · cases hr with
                        | lst0 hf => exact ⟨_, _, rfl, (hf rfl).1⟩
                        | lst _ _ hf _ _ _ _ => exact ⟨_, _, rfl, (hf rfl).1⟩
                  obtain ⟨hsl, base, cap, rfl, hcap⟩ := hsl
                  exact append_core F (d := sl) (t := t) (t2 := t2) hO hu hu2 hni hz hby g4 g2 g3 hroom hsl (hX w rfl).1 (fun w' hw => (hX w' hw).2) hrow (.inl ⟨hcap, hor⟩)
            case own i sz =>
              cases hzz : Nat.beq sz z with
              | false => rw [hzz] at hx; simp at hx
              | true =>
                have := nbE hzz; subst this
                rw [hzz] at hx; simp only [cond_true] at hx
                cases hO : s.O i with
                | none => rw [hO] at hx; simp at hx
                | some p =>
                  rw [hO] at hx
                  cases p <;> (try simp only at hx) <;> try (simp at hx; done)
                  rename_i ty sz' els
                  cases hzz2 : (Nat.beq sz' sz && Nat.beq ty e) with
                  | false => rw [hzz2] at hx; simp at hx
                  | true =>
                    rw [hzz2] at hx; simp only [cond_true] at hx
                    simp only [Bool.and_eq_true] at hzz2
                    have := nbE hzz2.1; subst this
                    have := nbE hzz2.2; subst this
                    have hid : i ≠ (bif Nat.beq i sl then sl + 1 else sl) := by
                      cases hb : Nat.beq i sl with
                      | true => have := nbE hb; subst this; simp
                      | false => simp only [cond_false]; intro e; rw [nbT e] at hb; cases hb
                    generalize (bif Nat.beq i sl then sl + 1 else sl) = d at hx hid
                    cases hd : s.O d with
                    | some p => rw [hd] at hx; simp at hx
                    | none =>
                      rw [hd] at hx; simp only [Option.some.injEq] at hx; subst hx
                      have hroom : (els.length + xs.length) * by_ ≤ 2 ^ 38 := by simpa using hc (decide ((els.length + xs.length) * by_ ≤ 2 ^ 38)) (by simp)
                      have ho := F.objs i
                      have hsl := own_slOk (.inl ⟨_, hO⟩) ho r
                      rw [hO] at ho
                      cases r with
                      | own hφ hb hcap hlc hlen =>
                        have hl := hlen els.length (by rw [hO]; rfl)
                        subst hl
                        refine own i d els _ _ hid hd (by rw [hφ]; simp) (fun b hb => hc b (by simp [hb])) hroom hsl ?_
                        rcases ho with ⟨h1, h2⟩ | ⟨b, c, fz, h1, h2, h3, h4, h5⟩
                        · rw [h1] at hφ; cases hφ
                        · rw [h1] at hφ; injection hφ with hφ; subst hφ
                          rw [h3] at hb; injection hb with hb; injection hb with e1 e2 e3; subst e1
                          exact .inr ⟨_, _, _, rfl, h2, h3, h4, hcap, h5⟩
                      | ownNil hφ =>
                        rcases ho with ⟨h1, h2⟩ | ⟨b, c, fz, h1, h2, h3, h4, h5⟩
                        · subst h2
                          exact own i d [] _ _ hid hd (by rw [hφ]; simp) (fun b hb => hc b (by simp [hb])) hroom hsl (.inl ⟨rfl, rfl⟩)
                        · rw [h1] at hφ; cases hφ
            case sub i sz off len =>
              cases hzz : (Nat.beq sz z && Nat.beq off 0) with
              | false => rw [hzz] at hx; simp at hx
              | true =>
                simp only [Bool.and_eq_true] at hzz
                have := nbE hzz.1; subst this
                have := nbE hzz.2; subst this
                have : (Nat.beq sz sz && Nat.beq 0 0) = true := by simp
                rw [this] at hx; simp only [cond_true] at hx
                cases hO : s.O i with
                | none => rw [hO] at hx; simp at hx
                | some p =>
                  rw [hO] at hx
                  cases p <;> (try simp only at hx) <;> try (simp at hx; done)
                  rename_i ty sz' els
                  cases hzz2 : (Nat.beq sz' sz && Nat.beq ty e) with
                  | false => rw [hzz2] at hx; simp at hx
                  | true =>
                    rw [hzz2] at hx; simp only [cond_true] at hx
                    simp only [Bool.and_eq_true] at hzz2
                    have := nbE hzz2.1; subst this
                    have := nbE hzz2.2; subst this
                    have hid : i ≠ (bif Nat.beq i sl then sl + 1 else sl) := by
                      cases hb : Nat.beq i sl with
                      | true => have := nbE hb; subst this; simp
                      | false => simp only [cond_false]; intro e; rw [nbT e] at hb; cases hb
                    generalize (bif Nat.beq i sl then sl + 1 else sl) = d at hx hid
                    cases hd : s.O d with
                    | some p => rw [hd] at hx; simp at hx
                    | none =>
                      rw [hd] at hx; simp only [Option.some.injEq] at hx; subst hx
                      have hroom : (len + xs.length) * by_ ≤ 2 ^ 38 := by simpa using hc (decide ((len + xs.length) * by_ ≤ 2 ^ 38)) (by simp)
                      have hle : len ≤ els.length := by simpa using hc (decide (len ≤ els.length)) (by simp)
                      have htl : (els.take len).length = len := by simp; omega
                      have ho := F.objs i
                      have hsl := sub_slOk (.inl ⟨_, hO⟩) ho (by omega) r
                      simp only [List.drop_zero] at hsl
                      rw [hO] at ho
                      cases r with
                      | sub hφ hb hcap hlc =>
                        rename_i cap b c ty fz
                        have key := own i d (els.take len) (some ⟨b, 0, none⟩) cap hid hd (by rw [hφ]; simp) (fun b hb => hc b (by simp [hb])) (by rw [htl]; exact hroom) (by rw [htl]; simpa using hsl)
                          (by rcases ho with ⟨h1, h2⟩ | ⟨b', c', fz', h1, h2, h3, h4, h5⟩
                              · rw [h1] at hφ; cases hφ
                              · rw [h1] at hφ; injection hφ with hφ; subst hφ
                                rw [h3] at hb; injection hb with hb; injection hb with e1 e2 e3; subst e1
                                refine .inr ⟨_, _, _, rfl, h2, h3, h4, by simpa using hcap, ?_⟩
                                rcases h5.part 0 len with h6 | h6
                                · simpa using h6
                                · simp only [List.drop_zero] at h6; rw [h6]; exact ⟨fun x hx => by simp at hx, by simp, by simp⟩)
                        rw [htl] at key
                        simpa using key
                      | sub0 hφ =>
                        have key := own i d [] _ 0 hid hd hφ (fun b hb => hc b (by simp [hb])) (by simpa using hroom) (by simpa using hsl) (.inl ⟨rfl, rfl⟩)
                        simpa using key

end Go.Am

/-
  The abstract machine: each operation is sound (numbers, texts, comparisons, lengths).
-/
namespace Go.Am
set_option linter.unusedSectionVars false
variable {P : Program} [Gl]

theorem kindEq_of {a b : IntKind} (h : kindEq a b = true) : a = b := by cases a <;> cases b <;> first | rfl | (simp [kindEq] at h)

theorem ba_toList (l : List UInt8) : (⟨l.toArray⟩ : ByteArray).toList = l := by
  rw [ByteArray.toList_eq]

theorem ba_append (a b : List UInt8) : (⟨a.toArray⟩ : ByteArray) ++ ⟨b.toArray⟩ = ⟨(a ++ b).toArray⟩ := by
  apply ByteArray.ext
  rw [ByteArray.data_append]
  simp

theorem int_run {op : BinOp} {k : IntKind} {a b : Int} {v : DV} {c : List Bool} (hs : isShift op = false) (hx : exInt op k a b = some (v, c)) (hc : ∀ b ∈ c, b = true) (t : Nat) (w : World) :
    ∃ u, (binOp op t (.int k a) (.int k b)).run P w = .ok u w ∧ ∀ κ h, DR κ h v u := by
  cases op <;> simp only [exInt, Option.some.injEq, Prod.mk.injEq] at hx <;> (try (simp at hx; done)) <;> obtain ⟨rfl, rfl⟩ := hx
  case add => exact ⟨_, by simp [binOp, Op.intArith], fun _ _ => .int _ _⟩
  case sub => exact ⟨_, by simp [binOp, Op.intArith], fun _ _ => .int _ _⟩
  case mul => exact ⟨_, by simp [binOp, Op.intArith], fun _ _ => .int _ _⟩
  case quo =>
    have : b ≠ 0 := by simpa using hc
    exact ⟨_, by simp [binOp, Op.intDiv, this], fun _ _ => .int _ _⟩
  case rem =>
    have : b ≠ 0 := by simpa using hc
    exact ⟨_, by simp [binOp, Op.intDiv, this], fun _ _ => .int _ _⟩
  case and => exact ⟨.int k (bits .and k a b), by simp only [binOp, Op.intBits, bits, ne_eq, not_true_eq_false, if_false]; rfl, fun _ _ => .int _ _⟩
  case or => exact ⟨.int k (bits .or k a b), by simp only [binOp, Op.intBits, bits, ne_eq, not_true_eq_false, if_false]; rfl, fun _ _ => .int _ _⟩
  case xor => exact ⟨.int k (bits .xor k a b), by simp only [binOp, Op.intBits, bits, ne_eq, not_true_eq_false, if_false]; rfl, fun _ _ => .int _ _⟩
  case andNot => exact ⟨.int k (bits .andNot k a b), by simp only [binOp, Op.intBits, bits, ne_eq, not_true_eq_false, if_false]; rfl, fun _ _ => .int _ _⟩
  case eql => exact ⟨_, by simp [binOp, Op.intCmp], fun _ _ => .bool _⟩
  case neq => exact ⟨_, by simp [binOp, Op.intCmp], fun _ _ => .bool _⟩
  case lss => exact ⟨_, by simp [binOp, Op.intCmp], fun _ _ => .bool _⟩
  case leq => exact ⟨_, by simp [binOp, Op.intCmp], fun _ _ => .bool _⟩
  case gtr => exact ⟨_, by simp [binOp, Op.intCmp], fun _ _ => .bool _⟩
  case geq => exact ⟨_, by simp [binOp, Op.intCmp], fun _ _ => .bool _⟩

theorem str_run {op : BinOp} {a b : List UInt8} {v : DV} {c : List Bool} (hx : exStr op a b = some (v, c)) (hc : ∀ b ∈ c, b = true) (t : Nat) (w : World) :
    ∃ u, (binOp op t (.string ⟨a.toArray⟩) (.string ⟨b.toArray⟩)).run P w = .ok u w ∧ ∀ κ h, DR κ h v u := by
  cases op <;> simp only [exStr, Option.some.injEq, Prod.mk.injEq] at hx <;> (try (simp at hx; done)) <;> obtain ⟨rfl, rfl⟩ := hx
  case add =>
    have hle : a.length + b.length ≤ 2 ^ 62 := by simpa using hc
    have h62 : (2 : Nat) ^ 62 = 4611686018427387904 := by decide
    refine ⟨.string ⟨(a ++ b).toArray⟩, ?_, fun _ _ => .str _⟩
    simp only [binOp, Op.stringOp]
    rw [if_neg (by rw [maxI]; simp only [ByteArray.size, List.size_toArray]; omega), ba_append]; rfl
  all_goals
    refine ⟨_, by simp only [binOp, Op.stringOp, ba_toList]; rfl, fun _ _ => .bool _⟩

theorem eqS_run {d : Option TypeDesc} {a b : DV} {r : Bool} (h : eqS d a b = some r) {κ : Kap} {hp : Heap} {u v : Value} (ra : DR κ hp a u) (rb : DR κ hp b v) {t n : Nat} (hd : (Env.of P).und t = d) (w : World) :
    (Op.equalIn (n + 1) t u v).run P w = .ok r w ∧ (Env.of P).isAgg t = false ∧ d.isSome = true := by
  unfold eqS at h
  split at h
  · rename_i k0 k x k' y
    cases hke : kindEq k k' with
    | false => rw [hke] at h; simp at h
    | true =>
      have := kindEq_of hke; subst this
      rw [hke] at h; simp only [cond_true, Option.some.injEq] at h; subst h
      cases ra; cases rb
      exact ⟨run_equalIn_int w n t k k0 x y hd, by simp [Env.isAgg, hd], rfl⟩
  · injection h with h; subst h
    cases ra; cases rb
    rw [run_equalIn_string w n t _ _ hd, ba_toList, ba_toList]
    exact ⟨rfl, by simp [Env.isAgg, hd], rfl⟩
  · injection h with h; subst h
    cases ra; cases rb
    exact ⟨run_equalIn_bool' w n t _ _ hd, by simp [Env.isAgg, hd], rfl⟩
  · simp at h

theorem eqFieldsD_run {κ : Kap} {hp : Heap} {xs ys : Array Value} {n : Nat} (w : World) : ∀ (fs : List Field) (k : Nat) (a b : List DV) (r : Bool), eqFieldsD (Env.of P) k fs a b = some r →
    (∀ (i : Nat) (x : DV) (v : Value), a[i]? = some x → xs[k + i]? = some v → DR κ hp x v) → (∀ (i : Nat) (x : DV) (v : Value), b[i]? = some x → ys[k + i]? = some v → DR κ hp x v) →
    k + a.length ≤ xs.size → k + b.length ≤ ys.size → (Op.eqFields (n + 1) xs ys fs).run P w = .ok r w
  | [], k, a, b, r, h, _, _, _, _ => by
    unfold eqFieldsD at h
    cases a <;> cases b <;> simp at h
    subst h; rfl
  | f :: fs, k, a, b, r, h, ha, hb, la, lb => by
    cases a with
    | nil => simp [eqFieldsD] at h
    | cons x a =>
      cases b with
      | nil => simp [eqFieldsD] at h
      | cons y b =>
        simp only [eqFieldsD] at h
        cases hg : ((f.name != "_") && Nat.beq f.offset k) with
        | false => rw [hg] at h; simp at h
        | true =>
          rw [hg] at h; simp only [cond_true] at h
          simp only [Bool.and_eq_true, bne_iff_ne] at hg
          have hoff := nbE hg.2
          cases h1 : eqS ((Env.of P).und f.type) x y with
          | none => rw [h1] at h; simp at h
          | some r1 =>
            cases h2 : eqFieldsD (Env.of P) (k + 1) fs a b with
            | none => rw [h1, h2] at h; simp at h
            | some r2 =>
              rw [h1, h2] at h; simp only [Option.some.injEq] at h; subst h
              have lx : k < xs.size := by simp at la; omega
              have ly : k < ys.size := by simp at lb; omega
              obtain ⟨q1, q2, q3⟩ := eqS_run (n := n) h1 (ha 0 x xs[k] rfl (by simp [lx])) (hb 0 y ys[k] rfl (by simp [ly])) rfl w
              obtain ⟨d, hd⟩ := Option.isSome_iff_exists.1 q3
              have pt : ∀ (zs : Array Value) (hz : k < zs.size), (part f.type zs f.offset).run P w = .ok zs[k] w := by
                intro zs hz
                simp only [part, Sem.run_bind, run_isAgg rfl (show P.underlying f.type = some d from hd), Result.andThen_ok, q2, hoff, Bool.false_eq_true, if_false]
                simp [hz]
              simp only [Op.eqFields]
              rw [if_pos hg.1]
              simp only [Sem.run_bind, pt xs lx, pt ys ly, Result.andThen_ok, q1]
              cases r1 with
              | false => simp
              | true =>
                simp only [Bool.not_true, Bool.false_eq_true, if_false, Bool.true_and]
                exact eqFieldsD_run w fs (k + 1) a b r2 h2 (fun i x v hx hv => ha (i + 1) x v (by simpa using hx) (by rw [← hv]; congr 1; omega)) (fun i x v hx hv => hb (i + 1) x v (by simpa using hx) (by rw [← hv]; congr 1; omega)) (by simp at la; omega) (by simp at lb; omega)

theorem eqOp_of {op : BinOp} {b : Bool} {v : RV} (h : eqOp op b = some v) : (op = .eql ∧ v = .d (.bool b)) ∨ (op = .neq ∧ v = .d (.bool (!b))) := by
  cases op <;> simp [eqOp] at h
  · exact .inl ⟨rfl, h.symm⟩
  · exact .inr ⟨rfl, h.symm⟩

theorem isPtr_val {κ : Kap} {φ : Phi} {O : Tab} {h : Heap} {x : RV} {v : Value} (r : RVR κ φ O h x v) (hp : isPtr x = true) : ∃ ad, v = .pointer (some ad) := by
  cases r <;> first | exact ⟨_, rfl⟩ | (simp [isPtr] at hp)

theorem eq_nilp (n t : Nat) {e : Nat} (b : Option Addr) (hu : (Env.of P).und t = some (.pointer e)) (w : World) : (Op.equalIn (n + 1) t (.pointer none) (.pointer b)).run P w = .ok b.isNone w := by
  simp only [Op.equalIn, Sem.run_bind, run_und hu, Result.andThen_ok, Sem.run_pure]
theorem eq_pnil (n t : Nat) {e : Nat} (b : Addr) (hu : (Env.of P).und t = some (.pointer e)) (w : World) : (Op.equalIn (n + 1) t (.pointer (some b)) (.pointer none)).run P w = .ok false w := by
  simp only [Op.equalIn, Sem.run_bind, run_und hu, Result.andThen_ok, Sem.run_pure]
theorem eq_nilm (n t : Nat) {k e : Nat} (b : Option Nat) (hu : (Env.of P).und t = some (.map k e)) (w : World) : (Op.equalIn (n + 1) t (.map none) (.map b)).run P w = .ok b.isNone w := by
  simp only [Op.equalIn, Sem.run_bind, run_und hu, Result.andThen_ok, Sem.run_pure]
theorem eq_mnil (n t : Nat) {k e : Nat} (b : Nat) (hu : (Env.of P).und t = some (.map k e)) (w : World) : (Op.equalIn (n + 1) t (.map (some b)) (.map none)).run P w = .ok false w := by
  simp only [Op.equalIn, Sem.run_bind, run_und hu, Result.andThen_ok, Sem.run_pure]
def ptrish : Value → Bool
  | .pointer _ => true
  | .map _ => true
  | .bool _ => true
  | _ => false
theorem bin_eql {t : Nat} {u v : Value} {r : Bool} (w : World) (hu : ptrish u = true) (hv : ptrish v = true) (h : (Op.equalIn (9999 + 1) t u v).run P w = .ok r w) :
    (binOp .eql t u v).run P w = .ok (.bool r) w ∧ (binOp .neq t u v).run P w = .ok (.bool (!r)) w := by
  have h' : (Op.equal t u v).run P w = .ok r w := h
  cases u <;> cases v <;> first | (simp [ptrish] at hu hv; done) | exact ⟨by simp only [binOp, Sem.run_bind, h', Result.andThen_ok, Sem.run_pure], by simp only [binOp, Sem.run_bind, h', Result.andThen_ok, Sem.run_pure]⟩

theorem bin_ok {κ : Kap} {φ : Phi} {w : World} {s : SSt} {a : Act} (F : FRel κ φ w s a) {op : BinOp} {t : Nat} {x y : RV} {xo yo : Operand} {v u : Value} {res : Res}
    (hx : exBin (Env.of P) op t x y = some res) (hc : ∀ b ∈ res.conds, b = true) (r : RVR κ φ s.O w.heap x v) (r2 : RVR κ φ s.O w.heap y u) :
    Out P κ φ w s a res.val res.upd (do eqGuard op t xo yo v u; binOp op t v u) := by
  have fin : ∀ (z : Value), (eqGuard op t xo yo v u).run P w = .ok () w → (binOp op t v u).run P w = .ok z w → RVR κ φ s.O w.heap res.val z → res.upd = [] → Out P κ φ w s a res.val res.upd (do eqGuard op t xo yo v u; binOp op t v u) := by
    intro z h1 h2 h3 h4
    rw [h4]
    exact Out.pure F (by simp [h1, h2]) h3
  have gd : (∀ xs ys, ¬ (v = .agg xs ∧ u = .agg ys)) → ¬ (v = .nilIface ∧ u = .nilIface) → (eqGuard op t xo yo v u).run P w = .ok () w := by
    intro h1 h2
    unfold eqGuard
    cases op <;> first | rfl | (cases v <;> cases u <;> first | rfl | exact absurd ⟨rfl, rfl⟩ (h1 _ _) | exact absurd ⟨rfl, rfl⟩ h2)
  unfold exBin at hx
  split at hx
  · -- ints
    rename_i k m k' n
    cases r with
    | d hr =>
    cases r2 with
    | d hr2 =>
    cases hr; cases hr2
    have g := gd (by rintro _ _ ⟨h, _⟩; cases h) (by rintro ⟨h, _⟩; cases h)
    cases hsh : isShift op with
    | true =>
      rw [hsh] at hx; simp only [cond_true] at hx
      cases op <;> simp [isShift] at hsh
      · injection hx with hx; subst hx
        have hn : 0 ≤ n := by simpa using hc
        refine fin _ g ?_ (.d (.int _ _)) rfl
        simp only [binOp, Op.shift]
        rw [if_neg (by omega)]; rfl
      · injection hx with hx; subst hx
        have hn : 0 ≤ n := by simpa using hc
        refine fin _ g ?_ (.d (.int _ _)) rfl
        simp only [binOp, Op.shift]
        rw [if_neg (by omega)]; rfl
    | false =>
      rw [hsh] at hx; simp only [cond_false] at hx
      cases hke : kindEq k k' with
      | false => rw [hke] at hx; simp at hx
      | true =>
        have := kindEq_of hke; subst this
        rw [hke] at hx; simp only [cond_true] at hx
        cases he : exInt op k m n with
        | none => rw [he] at hx; simp at hx
        | some p =>
          obtain ⟨dv, cc⟩ := p
          rw [he] at hx; simp only [Option.some.injEq] at hx; subst hx
          obtain ⟨z, z1, z2⟩ := int_run hsh he hc t w
          exact fin z g z1 (.d (z2 _ _)) rfl
  · -- strings
    rename_i p q
    cases r with
    | d hr =>
    cases r2 with
    | d hr2 =>
    cases hr; cases hr2
    have g := gd (by rintro _ _ ⟨h, _⟩; cases h) (by rintro ⟨h, _⟩; cases h)
    cases he : exStr op p q with
    | none => rw [he] at hx; simp at hx
    | some pp =>
      obtain ⟨dv, cc⟩ := pp
      rw [he] at hx; simp only [Option.some.injEq] at hx; subst hx
      obtain ⟨z, z1, z2⟩ := str_run he hc t w
      exact fin z g z1 (.d (z2 _ _)) rfl
  · -- bools
    rename_i p q
    cases r with
    | d hr =>
    cases r2 with
    | d hr2 =>
    cases hr; cases hr2
    have g := gd (by rintro _ _ ⟨h, _⟩; cases h) (by rintro ⟨h, _⟩; cases h)
    split at hx
    · rename_i hu he
      injection hx with hx; subst hx
      rcases eqOp_of he with ⟨rfl, rfl⟩ | ⟨rfl, rfl⟩
      · exact fin (.bool (p == q)) g (bin_eql w rfl rfl (run_equalIn_bool' w 9999 t p q hu)).1 (.d (.bool _)) rfl
      · exact fin (.bool (!(p == q))) g (bin_eql w rfl rfl (run_equalIn_bool' w 9999 t p q hu)).2 (.d (.bool _)) rfl
    · simp at hx
  · -- structs
    rename_i p q
    cases r with
    | d hr =>
    cases r2 with
    | d hr2 =>
    cases hr with
    | agg hl hs hr =>
    cases hr2 with
    | agg hl2 hs2 hr2 =>
    rename_i vs us
    split at hx
    · rename_i fs hu
      split at hx
      · rename_i b he
        cases hok : (Env.of P).eqOk t with
        | false => rw [hok] at hx; simp at hx
        | true =>
          rw [hok] at hx; simp only [cond_true] at hx
          simp only [Env.of, Bool.and_eq_true, Bool.not_eq_true'] at hok
          split at hx
          · rename_i z hz
            injection hx with hx; subst hx
            have g := run_eqGuard_agg w op t xo yo vs us hok.2
            have hfo : P.fieldsOf t = fs := by simp only [Program.fieldsOf]; rw [show P.underlying t = some (.struct fs) from hu]
            have heq : (Op.equalIn 10000 t (.agg vs) (.agg us)).run P w = .ok b w := by
              rw [run_equalIn_struct w 9999 t vs us (by rw [hfo]; exact hu) hok.1, hfo]
              exact eqFieldsD_run w fs.toList 0 p q b he (fun i x v hx hv => hr i x v hx (by simpa using hv)) (fun i x v hx hv => hr2 i x v hx (by simpa using hv)) (by omega) (by omega)
            rcases eqOp_of hz with ⟨rfl, rfl⟩ | ⟨rfl, rfl⟩
            · exact fin (.bool b) g (by rw [run_eql_struct, heq]; rfl) (.d (.bool _)) rfl
            · exact fin (.bool (!b)) g (by rw [run_neq_struct, heq]; rfl) (.d (.bool _)) rfl
          · simp at hx
      · simp at hx
    · simp at hx
  · -- nil and nil
    cases r with
    | d hr =>
    cases r2 with
    | d hr2 =>
    cases hr; cases hr2
    have g := gd (by rintro _ _ ⟨h, _⟩; cases h) (by rintro ⟨h, _⟩; cases h)
    split at hx
    · rename_i el z hu he
      injection hx with hx; subst hx
      rcases eqOp_of he with ⟨rfl, rfl⟩ | ⟨rfl, rfl⟩
      · exact fin (.bool true) g (bin_eql w rfl rfl (eq_nilp 9999 t none hu w)).1 (.d (.bool _)) rfl
      · exact fin (.bool false) g (bin_eql w rfl rfl (eq_nilp 9999 t none hu w)).2 (.d (.bool _)) rfl
    · simp at hx
  · -- a place and nil
    rename_i p _
    cases hp : isPtr x with
    | false => rw [hp] at hx; simp at hx
    | true =>
      rw [hp] at hx; simp only [cond_true] at hx
      obtain ⟨ad, rfl⟩ := isPtr_val r hp
      cases r2 with
      | d hr2 =>
      cases hr2
      have g := gd (by rintro _ _ ⟨h, _⟩; cases h) (by rintro ⟨h, _⟩; cases h)
      split at hx
      · rename_i el z hu he
        injection hx with hx; subst hx
        rcases eqOp_of he with ⟨rfl, rfl⟩ | ⟨rfl, rfl⟩
        · exact fin (.bool false) g (bin_eql w rfl rfl (eq_pnil 9999 t ad hu w)).1 (.d (.bool _)) rfl
        · exact fin (.bool true) g (bin_eql w rfl rfl (eq_pnil 9999 t ad hu w)).2 (.d (.bool _)) rfl
      · simp at hx
  · -- nil and a place
    cases hp : isPtr y with
    | false => rw [hp] at hx; simp at hx
    | true =>
      rw [hp] at hx; simp only [cond_true] at hx
      obtain ⟨ad, rfl⟩ := isPtr_val r2 hp
      cases r with
      | d hr =>
      cases hr
      have g := gd (by rintro _ _ ⟨h, _⟩; cases h) (by rintro ⟨h, _⟩; cases h)
      split at hx
      · rename_i el z hu he
        injection hx with hx; subst hx
        rcases eqOp_of he with ⟨rfl, rfl⟩ | ⟨rfl, rfl⟩
        · exact fin (.bool false) g (bin_eql w rfl rfl (eq_nilp 9999 t (some ad) hu w)).1 (.d (.bool _)) rfl
        · exact fin (.bool true) g (bin_eql w rfl rfl (eq_nilp 9999 t (some ad) hu w)).2 (.d (.bool _)) rfl
      · simp at hx
  · -- a map and nil
    cases r with
    | map hφ =>
    cases r2 with
    | d hr2 =>
    cases hr2
    have g := gd (by rintro _ _ ⟨h, _⟩; cases h) (by rintro ⟨h, _⟩; cases h)
    split at hx
    · rename_i el z1 z hu he
      injection hx with hx; subst hx
      rcases eqOp_of he with ⟨rfl, rfl⟩ | ⟨rfl, rfl⟩
      · exact fin (.bool false) g (bin_eql w rfl rfl (eq_mnil 9999 t _ hu w)).1 (.d (.bool _)) rfl
      · exact fin (.bool true) g (bin_eql w rfl rfl (eq_mnil 9999 t _ hu w)).2 (.d (.bool _)) rfl
    · simp at hx
  · -- no map and nil
    cases r with
    | d hr =>
    cases r2 with
    | d hr2 =>
    cases hr; cases hr2
    have g := gd (by rintro _ _ ⟨h, _⟩; cases h) (by rintro ⟨h, _⟩; cases h)
    split at hx
    · rename_i el z1 z hu he
      injection hx with hx; subst hx
      rcases eqOp_of he with ⟨rfl, rfl⟩ | ⟨rfl, rfl⟩
      · exact fin (.bool true) g (bin_eql w rfl rfl (eq_nilm 9999 t none hu w)).1 (.d (.bool _)) rfl
      · exact fin (.bool false) g (bin_eql w rfl rfl (eq_nilm 9999 t none hu w)).2 (.d (.bool _)) rfl
    · simp at hx
  · simp at hx

theorem eq_slnil (n t : Nat) {e : TypeId} (a : Option Addr) (l c l' c' : Nat) (hu : P.underlying t = some (.slice e)) (w : World) : (Op.equalIn (n + 1) t (.slice a l c) (.slice none l' c')).run P w = .ok a.isNone w := by
  cases a <;> simp [Op.equalIn, run_underlying hu]

theorem bin_eqlS {t l c : Nat} {base : Option Addr} {r : Bool} (w : World) (h : (Op.equalIn (9999 + 1) t (.slice base l c) (.slice none 0 0)).run P w = .ok r w) :
    (binOp .eql t (.slice base l c) (.slice none 0 0)).run P w = .ok (.bool r) w ∧ (binOp .neq t (.slice base l c) (.slice none 0 0)).run P w = .ok (.bool (!r)) w := by
  have h' : (Op.equal t (.slice base l c) (.slice none 0 0)).run P w = .ok r w := h
  exact ⟨by simp only [binOp, Sem.run_bind, h', Result.andThen_ok, Sem.run_pure], by simp only [binOp, Sem.run_bind, h', Result.andThen_ok, Sem.run_pure]⟩

theorem isNilSl_ok {κ : Kap} {φ : Phi} {w : World} {s : SSt} {a : Act} (F : FRel κ φ w s a) {x : RV} {v : Value} {b : Bool} (hx : isNilSl s.O x = some b) (r : RVR κ φ s.O w.heap x v) :
    ∃ base l c, v = .slice base l c ∧ base.isNone = b := by
  unfold isNilSl at hx
  split at hx
  · rename_i sz els full
    cases r with
    | d hr =>
    split at hx
    · cases hg : (Nat.beq sz 0 && full) with
      | false => rw [hg] at hx; simp at hx
      | true =>
        rw [hg] at hx; simp only [cond_true, Option.some.injEq] at hx; subst hx
        simp only [Bool.and_eq_true] at hg
        have := nbE hg.1; subst this
        cases hr with
        | lst0 hf => have := (hf hg.2).2 rfl; subst this; exact ⟨_, _, _, rfl, rfl⟩
        | lst _ _ hf _ _ _ _ => have := (hf hg.2).2; omega
    · injection hx with hx; subst hx
      cases hr with
      | lst _ _ _ _ _ _ _ => exact ⟨_, _, _, rfl, rfl⟩
  · rename_i i sz
    have ho := F.objs i
    cases r with
    | own hφ hb hcap hlc hlen =>
      split at hx
      · injection hx with hx; subst hx; exact ⟨_, _, _, rfl, rfl⟩
      · injection hx with hx; subst hx; exact ⟨_, _, _, rfl, rfl⟩
      · cases hx
    | ownNil hφ =>
      split at hx
      · rename_i hO
        rw [hO] at ho
        rcases ho with ⟨_, h2⟩ | ⟨_, _, _, h1, _⟩
        · cases h2
        · rw [h1] at hφ; cases hφ
      · rename_i hO
        rw [hO] at ho
        rcases ho with ⟨_, h2⟩ | ⟨_, _, _, _, h1, _⟩
        · cases h2
        · rw [h1] at hφ; cases hφ
      · cases hx
  · injection hx with hx; subst hx
    cases r with
    | sub hφ hb hcap hlc => exact ⟨_, _, _, rfl, rfl⟩
  · cases hx

theorem binO_ok {κ : Kap} {φ : Phi} {w : World} {s : SSt} {a : Act} (F : FRel κ φ w s a) {op : BinOp} {t : Nat} {x y : RV} {xo yo : Operand} {v u : Value} {res : Res}
    (hx : exBinO (Env.of P) s.O op t x y = some res) (hc : ∀ b ∈ res.conds, b = true) (r : RVR κ φ s.O w.heap x v) (r2 : RVR κ φ s.O w.heap y u) :
    Out P κ φ w s a res.val res.upd (do eqGuard op t xo yo v u; binOp op t v u) := by
  unfold exBinO at hx
  split at hx
  · unfold exNilCmp at hx
    split at hx
    · rename_i e b hu hb
      split at hx
      · rename_i z he
        injection hx with hx; subst hx
        obtain ⟨base, l, c, rfl, hbb⟩ := isNilSl_ok F hb r
        have hu2 : u = .slice none 0 0 := by
          cases r2 with
          | d hr =>
          cases hr with
          | lst0 hf => have := hf rfl; rw [this.1, this.2 rfl]
          | lst _ _ hf _ _ _ _ => have := (hf rfl).2; omega
        subst hu2
        have g : (eqGuard op t xo yo (.slice base l c) (.slice none 0 0)).run P w = .ok () w := by
          unfold eqGuard
          cases op <;> rfl
        have hq := eq_slnil (P := P) 9999 t base l c 0 0 hu w
        rw [hbb] at hq
        rcases eqOp_of he with ⟨rfl, rfl⟩ | ⟨rfl, rfl⟩
        · exact Out.pure F (v := .bool b) (by simp only [Sem.run_bind, g, Result.andThen_ok]; exact (bin_eqlS w hq).1) (.d (.bool _))
        · exact Out.pure F (v := .bool (!b)) (by simp only [Sem.run_bind, g, Result.andThen_ok]; exact (bin_eqlS w hq).2) (.d (.bool _))
      · cases hx
    · cases hx
  · exact bin_ok F hx hc r r2

theorem un_ok {κ : Kap} {φ : Phi} {w : World} {s : SSt} {a : Act} (F : FRel κ φ w s a) {op : UnOp} {x : RV} {v : Value} {res : Res}
    (hx : exUn op x = some res) (r : RVR κ φ s.O w.heap x v) : Out P κ φ w s a res.val res.upd (Op.unary op v) := by
  unfold exUn at hx
  split at hx
  · injection hx with hx; subst hx
    cases r with
    | d hr => cases hr; exact Out.pure F (by simp only [Op.unary]; rfl) (.d (.bool _))
  · injection hx with hx; subst hx
    cases r with
    | d hr => cases hr; exact Out.pure F (by simp only [Op.unary, Op.intArith]; rfl) (.d (.int _ _))
  · injection hx with hx; subst hx
    cases r with
    | d hr => cases hr; exact Out.pure F (by simp only [Op.unary, Op.intBits]; rfl) (.d (by simp only [bits]; exact .int _ _))
  · simp at hx

theorem goInt_DR {κ : Kap} {h : Heap} (n : Int) : DR κ h (.int .i64 n) (goInt n) := .int _ _

theorem len_ok {κ : Kap} {φ : Phi} {w : World} {s : SSt} {a : Act} (F : FRel κ φ w s a) {t : Nat} {x : RV} {v : Value} {res : Res} {ty : Nat}
    (hx : exLen (Env.of P) s.O t x = some res) (r : RVR κ φ s.O w.heap x v) : Out P κ φ w s a res.val res.upd (Builtin.len_ #[t] ty #[v]) := by
  have st : ∀ (d : TypeDesc) (n : Nat), (Env.of P).und t = some d →
      ((match d, v with
        | .string, .string s => pure (goInt s.size)
        | .array n _, _ => pure (goInt n)
        | .slice _, .slice _ n _ => pure (goInt n)
        | .map _ _, .map none => pure (goInt 0)
        | .map _ _, .map (some r) => do
          let .map entries _ ← getObj r | stuck "len: map expected"
          pure (goInt entries.size)
        | _, _ => stuck "") : Sem Value).run P w = .ok (goInt n) w → (Builtin.len_ #[t] ty #[v]).run P w = .ok (goInt n) w := by
    intro d n hu hrun
    simp only [Builtin.len_]
    rw [show (#[t] : Array TypeId)[0]? = some t from rfl, show (#[v] : Array Value)[0]? = some v from rfl]
    simp only [Sem.run_bind, run_und hu, Result.andThen_ok]
    rw [← hrun]
    cases d <;> cases v <;> first | rfl | (simp [stuck] at hrun; done) | skip
    all_goals (try (rename_i o; cases o <;> first | rfl | (simp [stuck] at hrun; done)))
  have sl : ∀ sz els, (∃ e, (Env.of P).und t = some (.slice e)) → SlOk κ w.heap v sz els → Out P κ φ w s a (.d (.int .i64 (els.length : Int))) [] (Builtin.len_ #[t] ty #[v]) := by
    rintro sz els ⟨e, hu⟩ ⟨base, cap, rfl, _, _⟩
    exact Out.pure F (st _ els.length hu rfl) (.d (goInt_DR _))
  unfold exLen at hx
  split at hx
  · rename_i hu
    injection hx with hx; subst hx
    cases r with
    | d hr =>
      cases hr
      rename_i str
      exact Out.pure F (st _ str.length hu (by simp [ByteArray.size])) (.d (goInt_DR _))
  · rename_i hu
    injection hx with hx; subst hx
    cases r with
    | d hr => exact sl _ _ ⟨_, hu⟩ hr.slOk
  · rename_i e i sz hu
    cases hO : s.O i with
    | none => rw [hO] at hx; simp at hx
    | some p =>
      rw [hO] at hx
      cases p <;> (try simp only at hx) <;> try (simp at hx; done)
      all_goals
        rename_i sz' els
        injection hx with hx; subst hx
        cases r with
        | own hφ hb hcap hlc hlen =>
          have := hlen els.length (by rw [hO]; rfl)
          subst this
          exact Out.pure F (st _ els.length hu rfl) (.d (goInt_DR _))
        | ownNil hφ =>
          have ho := F.objs i
          rw [hO] at ho
          rcases arr_or (by first | exact .inl ⟨_, ho⟩ | exact .inr ho) with ⟨h1, h2⟩ | ⟨b, c, ty, fz, h1, h3, h5⟩
          · subst h2; exact Out.pure F (st _ 0 hu rfl) (.d (goInt_DR _))
          · rw [h1] at hφ; cases hφ
  · rename_i e i sz off len hu
    injection hx with hx; subst hx
    cases r with
    | sub hφ hb hcap hlc => exact Out.pure F (st _ len hu rfl) (.d (goInt_DR _))
    | sub0 hφ => exact Out.pure F (st _ 0 hu rfl) (.d (goInt_DR _))
  · rename_i n e hu
    injection hx with hx; subst hx
    exact Out.pure F (st _ n hu (by cases v <;> rfl)) (.d (goInt_DR _))
  · rename_i hu
    injection hx with hx; subst hx
    cases r with
    | d hr => cases hr; exact Out.pure F (st _ 0 hu rfl) (.d (goInt_DR _))
  · rename_i i hu
    cases hO : s.O i with
    | none => rw [hO] at hx; simp at hx
    | some p =>
      rw [hO] at hx
      cases p <;> (try simp only at hx) <;> try (simp at hx; done)
      rename_i es
      injection hx with hx; subst hx
      cases r with
      | map hφ =>
        have ho := F.objs i
        rw [hO] at ho
        obtain ⟨b, mes, clock, h1, h2, h3, h4, h5⟩ := ho
        rw [h1] at hφ; injection hφ with hφ; subst hφ
        exact Out.pure F (st _ es.length hu (by simp [getObj, Sem.run, h3, h4.1])) (.d (goInt_DR _))
  · simp at hx

theorem minmax_ok {κ : Kap} {φ : Phi} {w : World} {s : SSt} {a : Act} (F : FRel κ φ w s a) {mn : Bool} {x y : RV} {v u : Value} {res : Res} {tys : Array TypeId} {ty : Nat}
    (hx : exMinMax mn x y = some res) (r : RVR κ φ s.O w.heap x v) (r2 : RVR κ φ s.O w.heap y u) :
    Out P κ φ w s a res.val res.upd (if mn then Builtin.min_ tys ty #[v, u] else Builtin.max_ tys ty #[v, u]) := by
  unfold exMinMax at hx
  split at hx
  · injection hx with hx; subst hx
    cases r with
    | d hr =>
    cases r2 with
    | d hr2 =>
    cases hr; cases hr2
    cases mn
    · exact Out.pure F (by simp only [Builtin.max_, Builtin.max2, List.foldlM_cons, List.foldlM_nil]; rfl) (.d (.int _ _))
    · exact Out.pure F (by simp only [Builtin.min_, Builtin.min2, List.foldlM_cons, List.foldlM_nil]; rfl) (.d (.int _ _))
  · simp at hx

end Go.Am

/-
  The abstract machine: each operation is sound (slices cut, conversions, make).
-/
namespace Go.Am
set_option linter.unusedSectionVars false
variable {P : Program} [Gl]

inductive ORel (κ : Kap) (φ : Phi) (O : Tab) (h : Heap) : Option RV → Option Value → Prop where
  | none : ORel κ φ O h none none
  | some {x : RV} {v : Value} (r : RVR κ φ O h x v) : ORel κ φ O h (some x) (some v)

theorem intOf_val {κ : Kap} {φ : Phi} {O : Tab} {h : Heap} {x : Option RV} {v : Option Value} {n : Option Int} (hx : intOf' x = some n) (r : ORel κ φ O h x v) :
    (n = none ∧ v = none) ∨ ∃ k m, n = some m ∧ v = some (.int k m) := by
  cases r with
  | none => simp [intOf'] at hx; exact .inl ⟨hx.symm, rfl⟩
  | some r =>
    rename_i x v
    cases x <;> simp only [intOf'] at hx <;> try (simp at hx; done)
    rename_i d
    cases d <;> (try simp only at hx) <;> try (simp at hx; done)
    injection hx with hx; subst hx
    cases r with
    | d hr => cases hr; exact .inr ⟨_, _, rfl, rfl⟩

theorem run_bound {k : IntKind} {n : Int} {y : Nat} {c : BoundsCode} (h : 0 ≤ n ∧ n ≤ (y : Int)) (w : World) : (Instr.sliceBound (.int k n) y c).run P w = .ok n.toNat w := by
  simp only [Instr.sliceBound, asIntOf, Sem.run_bind, Sem.run_pure, Result.andThen_ok]
  rw [if_pos h]; rfl

theorem run_bounds {isSlice : Bool} {len cap : Nat} {lo hi : Option Int} {lov hiv : Option Value}
    (hlo : (lo = none ∧ lov = none) ∨ ∃ k m, lo = some m ∧ lov = some (.int k m)) (hhi : (hi = none ∧ hiv = none) ∨ ∃ k m, hi = some m ∧ hiv = some (.int k m))
    (hc : ∀ b ∈ bnds len lo hi, b = true) (hle : len ≤ cap) (w : World) :
    (Instr.sliceBounds isSlice len cap lov hiv none).run P w = .ok (loOf lo, hiOf len hi, cap) w ∧ loOf lo ≤ hiOf len hi ∧ hiOf len hi ≤ len := by
  rcases hlo with ⟨rfl, rfl⟩ | ⟨k, m, rfl, rfl⟩ <;> rcases hhi with ⟨rfl, rfl⟩ | ⟨k', m', rfl, rfl⟩
  · exact ⟨by simp [Instr.sliceBounds, loOf, hiOf], by simp [loOf], Nat.le_refl _⟩
  · have h1 : 0 ≤ m' ∧ m' ≤ (len : Int) := by simpa [bnds] using hc
    refine ⟨?_, by simp [loOf], by simp only [hiOf]; omega⟩
    simp only [Instr.sliceBounds, Sem.run_bind, Sem.run_pure, Result.andThen_ok, run_bound (P := P) (k := k') (show 0 ≤ m' ∧ m' ≤ (cap : Int) by omega), loOf, hiOf]
  · have h1 : 0 ≤ m ∧ m ≤ (len : Int) := by simpa [bnds] using hc
    refine ⟨?_, by simp only [loOf, hiOf]; omega, Nat.le_refl _⟩
    simp only [Instr.sliceBounds, Sem.run_bind, Sem.run_pure, Result.andThen_ok, run_bound (P := P) (k := k) h1, loOf, hiOf]
  · have h1 : (0 ≤ m' ∧ m' ≤ (len : Int)) ∧ 0 ≤ m ∧ m ≤ ((m'.toNat : Nat) : Int) := ⟨by simpa using hc (decide (0 ≤ m' ∧ m' ≤ (len : Int))) (by simp [bnds]), by simpa using hc (decide (0 ≤ m ∧ m ≤ ((m'.toNat : Nat) : Int))) (by simp [bnds])⟩
    refine ⟨?_, by simp only [loOf, hiOf]; omega, by simp only [hiOf]; omega⟩
    simp only [Instr.sliceBounds, Sem.run_bind, Sem.run_pure, Result.andThen_ok, run_bound (P := P) (k := k') (show 0 ≤ m' ∧ m' ≤ (cap : Int) by omega), run_bound (P := P) (k := k) h1.2, loOf, hiOf]

theorem cutL_eq {α : Type} (s : List α) (lo hi : Option Int) (h : hiOf s.length hi ≤ s.length) : cutL s lo hi = (s.drop (loOf lo)).take (hiOf s.length hi - loOf lo) := by
  cases lo <;> cases hi <;> simp only [cutL, loOf, hiOf] at *
  · simp
  · simp
  · rename_i l; rw [List.take_of_length_le (by simp)]
  · rw [List.drop_take]

theorem ba_extract (s : List UInt8) (l h : Nat) : (⟨s.toArray⟩ : ByteArray).extract l h = ⟨((s.drop l).take (h - l)).toArray⟩ := by
  apply ByteArray.ext
  simp [ByteArray.data_extract]

theorem slice_ok {κ : Kap} {φ : Phi} {w : World} {s : SSt} {a : Act} (F : FRel κ φ w s a) {t : Nat} {x : RV} {lo hi mx : Option RV} {v : Value} {lov hiv mxv : Option Value} {res : Res}
    (hx : exSlice (Env.of P) s.O t x lo hi mx = some res) (hc : ∀ b ∈ res.conds, b = true) (r : RVR κ φ s.O w.heap x v)
    (rlo : ORel κ φ s.O w.heap lo lov) (rhi : ORel κ φ s.O w.heap hi hiv) (rmx : ORel κ φ s.O w.heap mx mxv) :
    Out P κ φ w s a res.val res.upd (Instr.sliceAt t v lov hiv mxv) := by
  unfold exSlice at hx
  split at hx
  · -- no third bound
    rename_i l h hl hh
    cases rmx
    have vl := intOf_val hl rlo
    have vh := intOf_val hh rhi
    split at hx
    · -- a text
      rename_i str hu
      injection hx with hx; subst hx
      cases r with
      | d hr =>
        cases hr
        obtain ⟨b1, b2, b3⟩ := run_bounds (P := P) (isSlice := false) (cap := str.length) vl vh hc (Nat.le_refl _) w
        refine Out.pure F (v := .string ⟨(cutL str l h).toArray⟩) ?_ (.d (.str _))
        simp only [Instr.sliceAt, Instr.slice, Sem.run_bind, run_und hu, Result.andThen_ok]
        have hsz : (⟨str.toArray⟩ : ByteArray).size = str.length := by simp [ByteArray.size]
        simp only [Option.isSome_none, Bool.false_eq_true, if_false, Sem.run_bind, Sem.run_pure, Result.andThen_ok, hsz, b1, ba_extract]
        rw [cutL_eq _ _ _ b3]
    · -- data
      rename_i e sz els full hu
      cases hz : (Env.of P).size e with
      | none => rw [hz] at hx; simp at hx
      | some z =>
        rw [hz] at hx; simp only at hx
        cases hg : (Nat.beq sz z || els.isEmpty) with
        | false => rw [hg] at hx; simp at hx
        | true =>
          rw [hg] at hx; simp only [cond_true, Option.some.injEq] at hx; subst hx
          cases r with
          | d hr =>
          have hrun : ∀ base cap, els.length ≤ cap → v = .slice base els.length cap → (Instr.sliceAt t v lov hiv none).run P w = .ok (.slice (if cap = loOf l then base else base.map (·.add (loOf l * z))) (hiOf els.length h - loOf l) (cap - loOf l)) w := by
            rintro base cap hcap rfl
            obtain ⟨b1, b2, b3⟩ := run_bounds (P := P) (isSlice := true) vl vh hc hcap w
            simp only [Instr.sliceAt, Instr.slice, Sem.run_bind, run_und hu, Result.andThen_ok, b1, run_sizeOf' hz, Sem.run_pure]
          obtain ⟨_, b2, b3⟩ := run_bounds (P := P) (isSlice := true) vl vh hc (Nat.le_refl _) w
          have hcl := cutL_eq els l h b3
          by_cases hemp : hiOf els.length h - loOf l = 0
          · obtain ⟨base, cap, rfl, hcap, _⟩ := hr.slOk
            refine Out.pure F (hrun base cap hcap rfl) (.d ?_)
            rw [hcl, hemp]
            simp only [List.take_zero]
            refine .lst0 (fun hf => ?_)
            cases h with
            | some h => simp at hf
            | none =>
              simp only at hf
              simp only [hiOf] at hemp
              have : cap = els.length ∧ (sz = 0 → base = none) := by
                cases hr with
                | lst0 hf' => exact ⟨by simp [(hf' hf).1], (hf' hf).2⟩
                | lst _ _ hf' _ _ _ _ => exact ⟨(hf' hf).1, fun e => by have := (hf' hf).2; omega⟩
              refine ⟨by omega, fun e => ?_⟩
              rw [this.2 e]; split <;> rfl
          · cases hr with
            | lst0 hf => simp only [hiOf, List.length_nil] at hemp b3; omega
            | lst hκ hb hf hcp hs hz' hr' =>
              rename_i b off cap c ty fz
              have hzz : sz = z := by
                simp only [Bool.or_eq_true] at hg
                rcases hg with hg | hg
                · exact nbE hg
                · have : els = [] := by simpa using hg
                  subst this; simp only [hiOf, List.length_nil] at hemp b3; omega
              subst hzz
              have hne : cap ≠ loOf l := by omega
              refine Out.pure F (hrun _ cap hcp rfl) (.d ?_)
              rw [if_neg hne]
              simp only [Option.map_some, add_at]
              have hlen : (cutL els l h).length = hiOf els.length h - loOf l := by rw [hcl]; simp; omega
              have hel : EL κ w.heap c off sz els := ⟨hz', by have := Nat.mul_le_mul_right sz hcp; omega, hr'⟩
              rcases hel.part (loOf l) (hiOf els.length h - loOf l) with hp | hp
              · rw [← hcl] at hp
                rw [← hlen]
                refine .lst hκ hb (fun hf' => ?_) (by omega) ?_ hp.1 hp.2.2
                · cases h with
                  | some h => simp at hf'
                  | none => simp only at hf'; have := hf hf'; simp only [hiOf] at hlen; omega
                · have : (loOf l + (cap - loOf l)) * sz = cap * sz := by congr 1; omega
                  rw [Nat.add_mul] at this; omega
              · rw [← hcl] at hp; rw [hp] at hlen; simp at hlen; omega
    · -- one's own
      rename_i e i sz hu
      have fin : ∀ els, ((∃ ty, s.O i = some (.arr ty sz els)) ∨ s.O i = some (.frz sz els)) → (Env.of P).size e = some sz → (∀ b ∈ bnds els.length l h, b = true) →
          Out P κ φ w s a (.sub i sz (loOf l) (hiOf els.length h - loOf l)) [] (Instr.sliceAt t v lov hiv none) := by
        intro els hO hz hcc
        have hso := own_slOk hO (F.objs i) r
        cases r with
        | own hφ hb hcap hlc hlen =>
          rename_i b len cap c ty fz
          have hl' := hlen els.length (by rcases hO with ⟨_, e⟩ | e <;> rw [e] <;> rfl)
          subst hl'
          obtain ⟨b1, b2, b3⟩ := run_bounds (P := P) (isSlice := true) vl vh hcc hlc w
          have hrun : (Instr.sliceAt t (.slice (some ⟨b, 0, none⟩) els.length cap) lov hiv none).run P w = .ok (.slice (if cap = loOf l then (some ⟨b, 0, none⟩) else some ⟨b, loOf l * sz, none⟩) (hiOf els.length h - loOf l) (cap - loOf l)) w := by
            simp only [Instr.sliceAt, Instr.slice, Sem.run_bind, run_und hu, Result.andThen_ok, b1, run_sizeOf' hz, Sem.run_pure, Option.map_some, add_at, Nat.zero_add]
          refine Out.pure F hrun ?_
          by_cases hne : cap = loOf l
          · rw [if_pos hne, show hiOf els.length h - loOf l = 0 by omega, show cap - loOf l = 0 by omega]
            exact .sub0 (by rw [hφ]; simp)
          · rw [if_neg hne]
            exact .sub hφ hb (by rw [show loOf l + (cap - loOf l) = cap by omega]; exact hcap) (by omega)
        | ownNil hφ =>
          rename_i base
          have he : els = [] := by
            obtain ⟨base', cap', e1, _⟩ := hso
            injection e1 with e1 e2 e3
            exact List.eq_nil_of_length_eq_zero e2.symm
          subst he
          obtain ⟨b1, b2, b3⟩ := run_bounds (P := P) (isSlice := true) (cap := 0) vl vh hcc (Nat.le_refl _) w
          simp only [List.length_nil] at b1 b2 b3
          have hrun : (Instr.sliceAt t (.slice base 0 0) lov hiv none).run P w = .ok (.slice base 0 0) w := by
            simp only [Instr.sliceAt, Instr.slice, Sem.run_bind, run_und hu, Result.andThen_ok, b1, run_sizeOf' hz, Sem.run_pure]
            rw [show hiOf 0 h = 0 by omega, show loOf l = 0 by omega]; simp
          refine Out.pure F hrun ?_
          simp only [List.length_nil]
          rw [show hiOf 0 h - loOf l = 0 by omega]
          exact .sub0 (by rw [hφ]; simp)
      cases hO : s.O i with
      | none => rw [hO] at hx; simp at hx
      | some p =>
        rw [hO] at hx
        cases hz : (Env.of P).size e with
        | none => rw [hz] at hx; cases p <;> simp at hx
        | some z =>
          rw [hz] at hx
          cases p <;> (try simp only at hx) <;> try (simp at hx; done)
          all_goals
            rename_i sz' els
            cases hb : (Nat.beq sz' sz && Nat.beq sz z) with
            | false => rw [hb] at hx; simp at hx
            | true =>
              rw [hb] at hx; simp only [cond_true, Option.some.injEq] at hx; subst hx
              simp only [Bool.and_eq_true] at hb
              have := nbE hb.1; subst this
              have := nbE hb.2; subst this
              exact fin els (by simp [hO]) hz hc
    · -- a part of one's own
      rename_i e i sz off len hu
      cases hz : (Env.of P).size e with
      | none => rw [hz] at hx; simp at hx
      | some z =>
        rw [hz] at hx; simp only at hx
        cases hb : Nat.beq sz z with
        | false => rw [hb] at hx; simp at hx
        | true =>
          have := nbE hb; subst this
          rw [hb] at hx; simp only [cond_true, Option.some.injEq] at hx; subst hx
          cases r with
          | sub hφ hb hcap hlc =>
            rename_i cap b c ty fz
            obtain ⟨b1, b2, b3⟩ := run_bounds (P := P) (isSlice := true) vl vh hc hlc w
            have hrun : (Instr.sliceAt t (.slice (some ⟨b, off * sz, none⟩) len cap) lov hiv none).run P w = .ok (.slice (if cap = loOf l then (some ⟨b, off * sz, none⟩) else some ⟨b, off * sz + loOf l * sz, none⟩) (hiOf len h - loOf l) (cap - loOf l)) w := by
              simp only [Instr.sliceAt, Instr.slice, Sem.run_bind, run_und hu, Result.andThen_ok, b1, run_sizeOf' hz, Sem.run_pure, Option.map_some, add_at]
            refine Out.pure F hrun ?_
            by_cases hne : cap = loOf l
            · rw [if_pos hne, show hiOf len h - loOf l = 0 by omega, show cap - loOf l = 0 by omega]
              exact .sub0 (by rw [hφ]; simp)
            · rw [if_neg hne, ← Nat.add_mul]
              exact .sub hφ hb (by rw [show off + loOf l + (cap - loOf l) = off + cap by omega]; exact hcap) (by omega)
          | sub0 hφ =>
            rename_i base
            obtain ⟨b1, b2, b3⟩ := run_bounds (P := P) (isSlice := true) (cap := 0) vl vh hc (Nat.le_refl _) w
            have hrun : (Instr.sliceAt t (.slice base 0 0) lov hiv none).run P w = .ok (.slice base 0 0) w := by
              simp only [Instr.sliceAt, Instr.slice, Sem.run_bind, run_und hu, Result.andThen_ok, b1, run_sizeOf' hz, Sem.run_pure]
              rw [show hiOf 0 h = 0 by omega, show loOf l = 0 by omega]; simp
            refine Out.pure F hrun ?_
            rw [show hiOf 0 h - loOf l = 0 by omega]
            exact .sub0 hφ
    · -- an array variable
      rename_i n e i off hu
      cases hO : s.O i with
      | none => rw [hO] at hx; simp at hx
      | some p =>
        rw [hO] at hx
        cases hz : (Env.of P).size e with
        | none => rw [hz] at hx; cases p <;> simp at hx
        | some z =>
          rw [hz] at hx
          cases p <;> (try simp only at hx) <;> try (simp at hx; done)
          rename_i sz els
          cases hb : (Nat.beq sz z && Nat.beq off 0) with
          | false => rw [hb] at hx; simp at hx
          | true =>
            rw [hb] at hx; simp only [cond_true, Option.some.injEq] at hx; subst hx
            simp only [Bool.and_eq_true] at hb
            have := nbE hb.1; subst this
            have := nbE hb.2; subst this
            have hn : els.length = n := by simpa using hc (decide (els.length = n)) (by simp)
            cases r with
            | ptr hφ =>
              rename_i b
              obtain ⟨b1, b2, b3⟩ := run_bounds (P := P) (isSlice := false) (cap := n) vl vh (fun b hb => hc b (by simp [hb])) (Nat.le_refl _) w
              have ho := F.objs i
              rw [hO] at ho
              rcases ho with ⟨h1, h2⟩ | ⟨b', c, fz, h1, h2, h3, h4, h5⟩
              · rw [h1] at hφ; cases hφ
              · have hφ' := hφ
                rw [h1] at hφ'; injection hφ' with hφ'; subst hφ'
                have hrun : (Instr.sliceAt t (.pointer (some ⟨b', 0, none⟩)) lov hiv none).run P w = .ok (.slice (some (if n = loOf l then ⟨b', 0, none⟩ else ⟨b', loOf l * sz, none⟩)) (hiOf n h - loOf l) (n - loOf l)) w := by
                  simp only [Instr.sliceAt, Sem.run_bind, run_und hu, Result.andThen_ok, Instr.sureAddr, Sem.run_pure, b1, run_sizeOf' hz, add_at, Nat.zero_add]
                refine Out.pure F hrun ?_
                by_cases hne : n = loOf l
                · rw [if_pos hne, show hiOf n h - loOf l = 0 by omega, show n - loOf l = 0 by omega]
                  exact .sub0 (by rw [hφ]; simp)
                · rw [if_neg hne]
                  exact .sub hφ h3 (by rw [show loOf l + (n - loOf l) = n by omega, ← hn]; have := h5.2.1; omega) (by omega)
    · simp at hx
  · -- a third bound
    rename_i h k m hl hh
    have vl := intOf_val hl rlo
    have vh := intOf_val hh rhi
    split at hx
    · rename_i e sz els full hu
      cases hz : (Env.of P).size e with
      | none => rw [hz] at hx; simp at hx
      | some z =>
        rw [hz] at hx; simp only at hx
        cases hg : ((Nat.beq sz z || els.isEmpty) && (Nat.ble 1 sz || full)) with
        | false => rw [hg] at hx; simp at hx
        | true =>
          rw [hg] at hx; simp only [cond_true, Option.some.injEq] at hx; subst hx
          simp only [Bool.and_eq_true] at hg
          obtain ⟨hg, hfull⟩ := hg
          have hfull : 1 ≤ sz ∨ full = true := by
            simp only [Bool.or_eq_true] at hfull
            rcases hfull with h | h
            · exact .inl (Nat.le_of_ble_eq_true h)
            · exact .inr h
          have h1 : 0 ≤ h ∧ h ≤ m := by simpa using hc (decide (0 ≤ h ∧ h ≤ m)) (by simp)
          have h2 : m ≤ (els.length : Int) := by simpa using hc (decide (m ≤ (els.length : Int))) (by simp)
          rcases vl with ⟨_, rfl⟩ | ⟨_, _, e1, _⟩
          · rcases vh with ⟨e1, _⟩ | ⟨k', m', e1, rfl⟩
            · cases e1
            · injection e1 with e1; subst e1
              cases rmx with
              | some rm =>
              cases rm with
              | d hrm =>
              cases hrm
              cases r with
              | d hr =>
              obtain ⟨base, cap, rfl, hcap, hrest⟩ := hr.slOk
              clear hrest
              have hrun : (Instr.sliceAt t (.slice base els.length cap) none (some (.int k' h)) (some (.int k m))).run P w = .ok (.slice (if m.toNat = 0 then base else base.map (·.add (0 * z))) (h.toNat - 0) (m.toNat - 0)) w := by
                simp only [Instr.sliceAt, Instr.slice, Sem.run_bind, run_und hu, Result.andThen_ok, Instr.sliceBounds, run_bound (P := P) (k := k) (show 0 ≤ m ∧ m ≤ (cap : Int) by omega),
                  run_bound (P := P) (k := k') (show 0 ≤ h ∧ h ≤ ((m.toNat : Nat) : Int) by omega), Sem.run_pure, run_sizeOf' hz]
              have hbase : (if m.toNat = 0 then base else base.map (·.add (0 * z))) = base := by
                split
                · rfl
                · cases base <;> simp [Addr.add]
              rw [hbase] at hrun
              refine Out.pure F hrun (.d ?_)
              have htl : (els.take h.toNat).length = h.toNat := by simp; omega
              simp only [Nat.sub_zero]
              by_cases h0 : h.toNat = 0
              · rw [h0]; simp only [List.take_zero]
                refine .lst0 (fun hf => ⟨by have : h = m := (by simpa using hf); omega, fun e => ?_⟩)
                rcases hfull with hfull | hfull
                · omega
                · cases hr with
                  | lst0 hf' => exact (hf' hfull).2 e
                  | lst _ _ hf' _ _ _ _ => have := (hf' hfull).2; omega
              · cases hr with
                | lst0 hf => simp at h2; omega
                | lst hκ hb hf hcp hs hz' hr' =>
                  rename_i b off c ty fz
                  have hel : EL κ w.heap c off sz els := ⟨hz', by have := Nat.mul_le_mul_right sz hcp; omega, hr'⟩
                  rcases hel.part 0 h.toNat with hp | hp
                  · simp only [List.drop_zero, Nat.zero_mul, Nat.add_zero] at hp
                    have := DR.lst (κ := κ) (h := w.heap) (full := decide (h = m)) (cap := m.toNat) hκ hb (fun hf' => ⟨by have : h = m := (by simpa using hf'); omega, by
                      rcases hfull with hfull | hfull
                      · exact hfull
                      · exact (hf hfull).2⟩) (by omega)
                      (by have := Nat.mul_le_mul_right sz (show m.toNat ≤ cap by omega); omega) hp.1 hp.2.2
                    rw [htl] at this; exact this
                  · simp only [List.drop_zero] at hp; rw [hp] at htl; simp at htl; omega
          · cases e1
    · simp at hx
  · simp at hx


theorem byte_of {x : DV} (h : x.isByte = true) : ∃ n, x = .int .u8 n := by
  cases x <;> try (simp [DV.isByte] at h; done)
  rename_i k n
  cases k <;> first | exact ⟨n, rfl⟩ | (simp [DV.isByte] at h)

theorem bytes_loop (f : Value → ByteArray → Sem (ForInStep ByteArray)) (hf : ∀ n s, f (.int .u8 n) s = pure (ForInStep.yield (s.push (UInt8.ofNat n.toNat)))) :
    ∀ (l : List Value) (ds : List DV) (acc : ByteArray) (w : World), l.length = ds.length → (∀ (i : Nat) (x : DV) (v : Value), ds[i]? = some x → l[i]? = some v → ∃ n, x = .int .u8 n ∧ v = .int .u8 n) →
    (forIn l acc f : Sem ByteArray).run P w = .ok ⟨acc.data ++ (ds.map DV.byte).toArray⟩ w
  | [], ds, acc, w, hl, _ => by
    have : ds = [] := List.eq_nil_of_length_eq_zero (by simpa using hl.symm)
    subst this; simp
  | v :: l, ds, acc, w, hl, h => by
    cases ds with
    | nil => simp at hl
    | cons x ds =>
      obtain ⟨n, rfl, rfl⟩ := h 0 x v rfl rfl
      have ih := bytes_loop f hf l ds (acc.push (UInt8.ofNat n.toNat)) w (by simpa using hl) (fun i x v hx hv => h (i + 1) x v (by simpa using hx) (by simpa using hv))
      simp only [List.forIn_cons, hf, Sem.run_bind, Sem.run_pure, Result.andThen_ok]
      refine ih.trans ?_
      congr 2
      simp [DV.byte, ByteArray.push]

theorem conv_ok {κ : Kap} {φ : Phi} {w : World} {s : SSt} {a : Act} (F : FRel κ φ w s a) {sl src dst : Nat} {x : RV} {v : Value} {res : Res}
    (hx : exConv (Env.of P) s.O sl src dst x = some res) (hc : ∀ b ∈ res.conds, b = true) (r : RVR κ φ s.O w.heap x v) : Out P κ φ w s a res.val res.upd (convert src dst v) := by
  unfold exConv at hx
  split at hx
  · rename_i ds k k0 n hs hd
    injection hx with hx; subst hx
    cases r with
    | d hr =>
      cases hr
      refine Out.pure F (v := .int k (k.wrap n)) ?_ (.d (.int _ _))
      simp only [convert, Sem.run_bind, run_und hs, run_und hd, Result.andThen_ok, Conv.intToInt, Sem.run_pure]
  · rename_i ds str hs hd
    injection hx with hx; subst hx
    cases r with
    | d hr =>
      cases hr
      refine Out.pure F (v := .string ⟨str.toArray⟩) ?_ (.d (.str _))
      simp only [convert, Sem.run_bind, run_und hs, run_und hd, Result.andThen_ok, Sem.run_pure]
  · rename_i ds e str hs hd
    cases hu8 : isU8 ((Env.of P).und e) with
    | false => rw [hu8] at hx; simp at hx
    | true =>
      rw [hu8] at hx; simp only [cond_true] at hx
      have hue : (Env.of P).und e = some (.int .u8) := by
        unfold isU8 at hu8; split at hu8
        · assumption
        · simp at hu8
      split at hx
      · rename_i hO hz
        injection hx with hx; subst hx
        cases r with
        | d hr =>
        cases hr
        have hsz : (⟨str.toArray⟩ : ByteArray).size = str.length := by simp [ByteArray.size]
        generalize hcap : str.length + w.tape w.drawn (.appendCap str.length 0 e) % (2 ^ 63 - str.length) = cap
        have hcl : str.length ≤ cap := by omega
        have hC : (str.toArray.map (fun b => Value.int .u8 b.toNat) ++ Array.replicate (cap - str.length) (Value.int .u8 0)).size = cap := by simp; omega
        generalize hCd : str.toArray.map (fun b => Value.int .u8 b.toNat) ++ Array.replicate (cap - str.length) (Value.int .u8 0) = C at hC
        have hrun : (convert src dst (.string ⟨str.toArray⟩)).run P w = .ok (.slice (some ⟨w.heap.size, 0, none⟩) str.length cap) { w with drawn := w.drawn + 1, heap := w.heap.push (.cells C e (cap, cap + 1)) } := by
          simp only [convert, Sem.run_bind, run_und hs, run_und hd, run_und hue, Result.andThen_ok, Conv.stringToBytes, hsz, run_choose, Question.forced, Question.cut, Bool.false_eq_true, if_false, hcap, hCd,
            newRow, run_newObj, Sem.run_pure, markStringish, run_shape, World.shape?, heap_push_eq, hC, run_freeze, World.freeze]
          rw [if_neg (by omega)]
          congr 2
          apply Array.ext_getElem?
          intro j
          rw [Array.getElem?_modify]
          by_cases e : w.heap.size = j
          · subst e; simp
          · rw [if_neg e]
            rcases Nat.lt_or_ge j w.heap.size with h | h
            · rw [heap_push_lt h, heap_push_lt h]
            · rw [Array.getElem?_eq_none (by simp; omega), Array.getElem?_eq_none (by simp; omega)]
        obtain ⟨q1, q2, q3⟩ := F.alloc (i := sl) (p := .arr e 1 (u8s str)) (o := .cells C e (cap, cap + 1)) (w' := { w with drawn := w.drawn + 1, heap := w.heap.push (.cells C e (cap, cap + 1)) }) rfl hO
          (fun M => .inr ⟨_, _, _, setP_same _ _ _, setK_same _ _ _, heap_push_eq _ _, fun o ho h => by rw [hC] at ho; omega, u8s_ok str, by rw [hC]; simp [u8s]; exact hcl, fun i x j y v hx hy hv => by
            obtain ⟨b, hb, rfl⟩ := u8s_get str i x hx
            have hlt := (List.getElem?_eq_some_iff.1 hb).1
            cases j with
            | zero =>
              simp [DV.cells] at hy; subst hy
              rw [← hCd] at hv
              rw [Array.getElem?_append_left (by simp; omega)] at hv
              simp [hb] at hv
              subst hv; exact .int _ _
            | succ j => simp [DV.cells] at hy⟩)
        refine ⟨_, _, _, setP φ sl (.at w.heap.size), hrun, q1, ?_, q3, q2.kp⟩
        exact .own (setP_same _ _ _) (heap_push_eq _ _) (by rw [hC]; omega) hcl (fun n hn => by
          have : PObj.len? (setT s.O sl (some (.arr e 1 (u8s str))) sl) = some n := hn
          rw [setT_same] at this; simp [PObj.len?, u8s] at this; omega)
      · simp at hx
  · rename_i x _ _ _ e hs hd hne
    cases hu8 : isU8 ((Env.of P).und e) with
    | false => rw [hu8] at hx; simp at hx
    | true =>
      rw [hu8] at hx; simp only [cond_true] at hx
      have hue : (Env.of P).und e = some (.int .u8) := by
        unfold isU8 at hu8; split at hu8
        · assumption
        · simp at hu8
      cases hel : elsOf s.O x with
      | none => rw [hel] at hx; simp at hx
      | some p3 =>
        obtain ⟨sz, els, cc⟩ := p3
        rw [hel] at hx; simp only at hx
        cases hg : (Nat.beq sz 1 || els.isEmpty) with
        | false => rw [hg] at hx; simp at hx
        | true =>
          rw [hg] at hx; simp only [cond_true, Option.some.injEq] at hx; subst hx
          have hby : els.all DV.isByte = true := hc _ (by simp)
          obtain ⟨base, cap, rfl, hcap, hsl⟩ := elsOf_ok F hel (fun b hb => hc b (by simp [hb])) r
          refine Out.pure F (v := .string ⟨(els.map DV.byte).toArray⟩) ?_ (.d (.str _))
          have hconv : (convert src dst (.slice base els.length cap)).run P w = (Conv.bytesToString (.slice base els.length cap)).run P w := by
            cases base <;> simp only [convert, Sem.run_bind, run_und hs, run_und hd, run_und hue, Result.andThen_ok]
          rw [hconv]
          rcases hsl with rfl | ⟨b, off, c, ty, fz, rfl, hb, hel2, hs2⟩
          · cases base with
            | none => simp only [Conv.bytesToString, Sem.run_pure]; rfl
            | some b => simp [Conv.bytesToString, loadCells, loadCellsFrom]; rfl
          · by_cases he : els = []
            · subst he; simp [Conv.bytesToString, loadCells, loadCellsFrom]; rfl
            · have hsz : sz = 1 := by
                simp only [Bool.or_eq_true] at hg
                rcases hg with hg | hg
                · exact nbE hg
                · exact absurd (by simpa using hg) he
              subst hsz
              obtain ⟨e1, e2, e3⟩ := hel2
              simp only [Conv.bytesToString, Sem.run_bind, run_loadCells_at hb (show off + els.length ≤ c.size by omega), Result.andThen_ok]
              rw [← Array.forIn_toList]
              have hll : (c.extract off (off + els.length)).toList.length = els.length := by simp; omega
              rw [bytes_loop (P := P) _ (fun _ _ => rfl) (c.extract off (off + els.length)).toList els ByteArray.empty w hll (fun i x v hx hv => by
                have hlt := (List.getElem?_eq_some_iff.1 hx).1
                obtain ⟨n, rfl⟩ := byte_of (List.all_eq_true.1 hby x (List.mem_iff_getElem?.2 ⟨i, hx⟩))
                simp only [Array.getElem?_toList, Array.getElem?_extract] at hv
                split at hv
                · have := e3 i _ 0 (.int .u8 n) v hx rfl (by simpa using hv)
                  cases this
                  exact ⟨n, rfl, rfl⟩
                · simp at hv)]
              simp only [Result.andThen_ok, Sem.run_pure]
              congr 3
              simp
  · simp at hx

theorem wrap_small {n : Int} (h0 : 0 ≤ n) (h : n ≤ 2 ^ 62) : IntKind.i64.wrap n = n := by
  have : (2 : Int) ^ 62 = 4611686018427387904 := by decide
  exact IntWalk.i64_in _ (by omega)

theorem makeSlice_ok {κ : Kap} {φ : Phi} {w : World} {s : SSt} {a : Act} (F : FRel κ φ w s a) {sl t : Nat} {x y : RV} {v u : Value} {res : Res}
    (hx : exMakeSlice (Env.of P) s.O sl t x y = some res) (hc : ∀ b ∈ res.conds, b = true) (r : RVR κ φ s.O w.heap x v) (r2 : RVR κ φ s.O w.heap y u) :
    Out P κ φ w s a res.val res.upd (Instr.makeSlice t v u) := by
  unfold exMakeSlice at hx
  split at hx
  · rename_i e k n k' m hu
    split at hx
    · rename_i z by_ q hO hz hby hze
      cases hg : (Nat.ble 1 z && Nat.ble 1 by_ && Nat.beq q.cells.length z && allScal q.cells) with
      | false => rw [hg] at hx; simp at hx
      | true =>
        rw [hg] at hx; simp only [cond_true, Option.some.injEq] at hx; subst hx
        simp only [Bool.and_eq_true] at hg
        obtain ⟨⟨⟨g1, g2⟩, g3⟩, g4⟩ := hg
        have g1 := Nat.le_of_ble_eq_true g1
        have g2 := Nat.le_of_ble_eq_true g2
        have g3 := nbE g3
        have g4 := allScal_spec g4
        have c1 : 0 ≤ n ∧ n ≤ m := by simpa using hc (decide (0 ≤ n ∧ n ≤ m)) (by simp)
        have c2 : (by_ : Int) * m ≤ 2 ^ 38 := of_decide_eq_true (hc (decide ((by_ : Int) * m ≤ 2 ^ 38)) (by simp))
        have p38 : (2 : Int) ^ 38 = 274877906944 := by decide
        have p62 : (2 : Int) ^ 62 = 4611686018427387904 := by decide
        have p48 : (2 : Int) ^ 48 = 281474976710656 := by decide
        have hm : m ≤ (by_ : Int) * m := by
          have := Int.mul_le_mul_of_nonneg_right (show (1 : Int) ≤ (by_ : Int) by omega) (show 0 ≤ m by omega)
          simpa using this
        cases r with
        | d hr =>
        cases r2 with
        | d hr2 =>
        cases hr; cases hr2
        obtain ⟨ti, hti, htib⟩ := run_typeInfo_bytes hby w
        obtain ⟨zv, hzv, hzo⟩ := run_zeroValue hze w
        have hzd : DR κ w.heap q zv := ofVal_DR hzo
        obtain ⟨zc1, zc2⟩ := hzd.cells
        have hzs : zv.cells.size = z := by omega
        have hB : ((Array.range (m.toNat * z)).map (zv.cells[· % zv.cells.size]!)).size = m.toNat * z := by simp
        have hrun : ∃ B : Array Value, B.size = m.toNat * z ∧ (∀ k, k < m.toNat * z → B[k]? = zv.cells[k % z]?) ∧ (Instr.makeSlice t (.int k n) (.int k' m)).run P w = .ok (.slice (some ⟨w.heap.size, 0, none⟩) n.toNat m.toNat) { w with heap := w.heap.push (.cells B e (0, 0)) } := by
          have w1 : IntKind.i64.wrap n = n := wrap_small (by omega) (by omega)
          have w2 : IntKind.i64.wrap m = m := wrap_small (by omega) (by omega)
          have hlt : ¬ ((by_ : Int) * m > 2 ^ 48) := by omega
          have hcond : ((decide (m < 0) || decide ((by_ : Int) * m > 2 ^ 48)) || decide (n < 0) || decide (n > m)) = false := by simp; omega
          by_cases h0 : m.toNat * z = 0
          · refine ⟨(Array.range (m.toNat * z)).map ((#[] : Array Value)[· % (#[] : Array Value).size]!), by simp, fun k hk => by omega, ?_⟩
            simp only [Instr.makeSlice, Sem.run_bind, run_und hu, Result.andThen_ok, asInt, asIntOf, Sem.run_pure, hti, htib, w1, w2]
            rw [if_neg (by simpa using hcond)]
            simp only [Sem.run_bind, Result.andThen_ok, run_askRoom, run_sizeOf' hz]
            rw [if_pos h0]
            simp [newRow]
          · refine ⟨(Array.range (m.toNat * z)).map (zv.cells[· % zv.cells.size]!), hB, fun k hk => ?_, ?_⟩
            · have hlt : k % z < zv.cells.size := by rw [hzs]; exact Nat.mod_lt _ (by omega)
              have e1 : ((Array.range (m.toNat * z)).map (zv.cells[· % zv.cells.size]!))[k]? = some (zv.cells[k % z]!) := by simp [hk, hzs]
              rw [e1, getElem!_pos zv.cells (k % z) hlt, getElem?_pos zv.cells (k % z) hlt]
            · simp only [Instr.makeSlice, Sem.run_bind, run_und hu, Result.andThen_ok, asInt, asIntOf, Sem.run_pure, hti, htib, w1, w2]
              rw [if_neg (by simpa using hcond)]
              simp only [Sem.run_bind, Result.andThen_ok, run_askRoom, run_sizeOf' hz]
              rw [if_neg h0]
              simp [newRow, hzv]
        obtain ⟨B, hB1, hB2, hrun⟩ := hrun
        have hnm : n.toNat ≤ m.toNat := by omega
        have hle := Nat.mul_le_mul_right z hnm
        obtain ⟨q1, q2, q3⟩ := F.alloc (i := sl) (p := .arr e z (List.replicate n.toNat q)) (o := .cells B e (0, 0)) (w' := { w with heap := w.heap.push (.cells B e (0, 0)) }) rfl hO
          (fun M => .inr ⟨_, _, _, setP_same _ _ _, setK_same _ _ _, heap_push_eq _ _, fzOk00 _, fun x hx => by
              have := List.eq_of_mem_replicate hx; subst this; exact ⟨g3, g4⟩, by rw [hB1]; simpa using hle, fun i x j y v hx hy hv => by
            have hi := (List.getElem?_eq_some_iff.1 hx).1
            have := List.eq_of_mem_replicate (List.mem_iff_getElem?.2 ⟨i, hx⟩); subst this
            have hj := (List.getElem?_eq_some_iff.1 hy).1
            simp only [List.length_replicate] at hi
            have h3 := Nat.mul_le_mul_right z (show i + 1 ≤ m.toNat by omega)
            rw [Nat.add_mul] at h3
            simp only [Nat.zero_add] at hv
            rw [hB2 _ (by omega)] at hv
            have : (i * z + j) % z = j := by rw [Nat.mul_comm, Nat.mul_add_mod]; exact Nat.mod_eq_of_lt (by omega)
            rw [this] at hv
            exact (zc2 j y v hy hv).mono M.imm⟩)
        refine ⟨_, _, _, setP φ sl (.at w.heap.size), hrun, q1, ?_, q3, q2.kp⟩
        exact .own (setP_same _ _ _) (heap_push_eq _ _) (by rw [hB1]; exact Nat.le_refl _) hnm (fun l hl => by
          have : PObj.len? (setT s.O sl (some (.arr e z (List.replicate n.toNat q))) sl) = some l := hl
          rw [setT_same] at this; simp [PObj.len?] at this; omega)
    · simp at hx
  · simp at hx

end Go.Am

/-
  The abstract machine: contracts of functions, and calls by them.
-/
namespace Go.Am
set_option linter.unusedSectionVars false
variable {P : Program} [Gl]

def mapO {α β : Type} (f : α → Option β) : List α → Option (List β)
  | [] => some []
  | x :: r => match f x, mapO f r with
    | some y, some l => some (y :: l)
    | _, _ => none

theorem mapO_spec {α β : Type} (f : α → Option β) : ∀ (l : List α) (r : List β), mapO f l = some r → r.length = l.length ∧ ∀ (i : Nat) (x : α) (y : β), l[i]? = some x → r[i]? = some y → f x = some y
  | [], r, h => by simp [mapO] at h; subst h; simp
  | x :: l, r, h => by
    simp only [mapO] at h
    cases h1 : f x with
    | none => rw [h1] at h; simp at h
    | some y =>
      cases h2 : mapO f l with
      | none => rw [h1, h2] at h; simp at h
      | some q =>
        rw [h1, h2] at h; simp at h; subst h
        obtain ⟨g1, g2⟩ := mapO_spec f l q h2
        refine ⟨by simp [g1], fun i x' y' hx hy => ?_⟩
        cases i with
        | zero => simp at hx hy; subst hx; subst hy; exact h1
        | succ i => exact g2 i x' y' (by simpa using hx) (by simpa using hy)

/-- The objects of a value, numbered otherwise. -/
def RV.ren (ρ : Nat → Option Nat) : Nat → RV → Option RV
  | 0, _ => none
  | n + 1, x =>
    match x with
    | .bot => some .bot
    | .und => some .und
    | .d x => some (.d x)
    | .ptr i off => match ρ i with | some j => some (.ptr j off) | none => none
    | .eptr i sz idx off => match ρ i with | some j => some (.eptr j sz idx off) | none => none
    | .iptr x off => some (.iptr x off)
    | .own i sz => match ρ i with | some j => some (.own j sz) | none => none
    | .sub i sz off len => match ρ i with | some j => some (.sub j sz off len) | none => none
    | .sl i sz o len cap => match ρ i with | some j => some (.sl j sz o len cap) | none => none
    | .map i => match ρ i with | some j => some (.map j) | none => none
    | .clo fn fs cs => match mapO (RV.ren ρ n) fs, mapO (RV.ren ρ n) cs with
      | some fs', some cs' => some (.clo fn fs' cs')
      | _, _ => none
    | .agg cs => match mapO (RV.ren ρ n) cs with | some l => some (.agg l) | none => none
    | .tup cs => match mapO (RV.ren ρ n) cs with | some l => some (.tup l) | none => none

def PObj.ren (ρ : Nat → Option Nat) : PObj → Option PObj
  | .box ty cs => match mapO (RV.ren ρ 6) cs with | some l => some (.box ty l) | none => none
  | .rar ty cs => match mapO (RV.ren ρ 6) cs with | some l => some (.rar ty l) | none => none
  | .mit m => match ρ m with | some j => some (.mit j) | none => none
  | p => some p

theorem RVR.ren {κ κ' : Kap} {φ φ' : Phi} {O O' : Tab} {h : Heap} {ρ : Nat → Option Nat} (himm : ∀ b, κ b = .imm → κ' b = .imm)
    (hφ : ∀ i j, ρ i = some j → φ i ≠ .un → φ' j = φ i) (hlen : ∀ i j n, ρ i = some j → φ i ≠ .un → PObj.len? (O' j) = some n → PObj.len? (O i) = some n) :
    ∀ (n : Nat) (x y : RV) (v : Value), RV.ren ρ n x = some y → RVR κ φ O h x v → RVR κ' φ' O' h y v := by
  intro n
  induction n with
  | zero => intro x y v e; simp [RV.ren] at e
  | succ n ih =>
    intro x y v e r
    have lst : ∀ (cs l : List RV) (vs : Array Value), mapO (RV.ren ρ n) cs = some l → vs.size = cs.length → (∀ (i : Nat) (x : RV) (v : Value), cs[i]? = some x → vs[i]? = some v → RVR κ φ O h x v) →
        vs.size = l.length ∧ ∀ (i : Nat) (x : RV) (v : Value), l[i]? = some x → vs[i]? = some v → RVR κ' φ' O' h x v := by
      intro cs l vs hm hs hr
      obtain ⟨m1, m2⟩ := mapO_spec _ cs l hm
      refine ⟨by omega, fun i x v hx hv => ?_⟩
      have hlt := (List.getElem?_eq_some_iff.1 hx).1
      have hlt2 : i < cs.length := by omega
      have hc : cs[i]? = some cs[i] := by simp [hlt2]
      exact ih _ x v (m2 i _ x hc hx) (hr i _ v hc hv)
    cases r with
    | bot v => simp [RV.ren] at e; subst e; exact .bot v
    | und => simp [RV.ren] at e; subst e; exact .und
    | d hr => simp [RV.ren] at e; subst e; exact .d (hr.mono (fun b hb => ⟨himm b hb, rfl⟩))
    | ptr h1 =>
      rename_i i off b
      simp only [RV.ren] at e
      cases hq : ρ i with
      | none => rw [hq] at e; simp at e
      | some j => rw [hq] at e; simp at e; subst e; exact .ptr (by rw [hφ i j hq (by rw [h1]; simp)]; exact h1)
    | eptr h1 =>
      rename_i i sz idx off b
      simp only [RV.ren] at e
      cases hq : ρ i with
      | none => rw [hq] at e; simp at e
      | some j => rw [hq] at e; simp at e; subst e; exact .eptr (by rw [hφ i j hq (by rw [h1]; simp)]; exact h1)
    | iptr h1 h2 h3 h4 h5 => simp [RV.ren] at e; subst e; exact .iptr (himm _ h1) h2 h3 h4 (fun j y v hy hv => (h5 j y v hy hv).mono (fun b hb => ⟨himm b hb, rfl⟩))
    | own h1 h2 h3 h4 h5 =>
      rename_i i sz b len cap c ty fz
      simp only [RV.ren] at e
      cases hq : ρ i with
      | none => rw [hq] at e; simp at e
      | some j => rw [hq] at e; simp at e; subst e; exact .own (by rw [hφ i j hq (by rw [h1]; simp)]; exact h1) h2 h3 h4 (fun n hn => h5 n (hlen i j n hq (by rw [h1]; simp) hn))
    | ownNil h1 =>
      rename_i i sz base
      simp only [RV.ren] at e
      cases hq : ρ i with
      | none => rw [hq] at e; simp at e
      | some j => rw [hq] at e; simp at e; subst e; exact .ownNil (by rw [hφ i j hq (by rw [h1]; simp)]; exact h1)
    | sub h1 h2 h3 h4 =>
      rename_i i sz off len cap b c ty fz
      simp only [RV.ren] at e
      cases hq : ρ i with
      | none => rw [hq] at e; simp at e
      | some j => rw [hq] at e; simp at e; subst e; exact .sub (by rw [hφ i j hq (by rw [h1]; simp)]; exact h1) h2 h3 h4
    | sub0 h1 =>
      rename_i i sz off base
      simp only [RV.ren] at e
      cases hq : ρ i with
      | none => rw [hq] at e; simp at e
      | some j => rw [hq] at e; simp at e; subst e; exact .sub0 (by rw [hφ i j hq h1]; exact h1)
    | sl h1 h2 h3 h4 h5 h6 h7 =>
      rename_i i sz o len cap b o' capv c ty fz
      simp only [RV.ren] at e
      cases hq : ρ i with
      | none => rw [hq] at e; simp at e
      | some j => rw [hq] at e; simp at e; subst e; exact .sl (by rw [hφ i j hq (by rw [h1]; simp)]; exact h1) h2 h3 h4 h5 h6 (fun ec n hn => h7 ec n (hlen i j n hq (by rw [h1]; simp) hn))
    | map h1 =>
      rename_i i b
      simp only [RV.ren] at e
      cases hq : ρ i with
      | none => rw [hq] at e; simp at e
      | some j => rw [hq] at e; simp at e; subst e; exact .map (by rw [hφ i j hq (by rw [h1]; simp)]; exact h1)
    | clo h1 h2 h3 h4 =>
      rename_i fn fs cs f c
      simp only [RV.ren] at e
      cases m1 : mapO (RV.ren ρ n) fs with
      | none => rw [m1] at e; simp at e
      | some fs' =>
        cases m2 : mapO (RV.ren ρ n) cs with
        | none => rw [m1, m2] at e; simp at e
        | some cs' =>
          rw [m1, m2] at e; simp at e; subst e
          obtain ⟨q1, q2⟩ := lst fs fs' f m1 h1 h3
          obtain ⟨q3, q4⟩ := lst cs cs' c m2 h2 h4
          exact .clo q1 q3 q2 q4
    | agg h1 h2 h3 =>
      rename_i cs vs
      simp only [RV.ren] at e
      cases m1 : mapO (RV.ren ρ n) cs with
      | none => rw [m1] at e; simp at e
      | some l =>
        rw [m1] at e; simp at e; subst e
        obtain ⟨q1, q2⟩ := lst cs l vs m1 h1 h3
        exact .agg q1 h2 q2
    | tup h1 h3 =>
      rename_i cs vs
      simp only [RV.ren] at e
      cases m1 : mapO (RV.ren ρ n) cs with
      | none => rw [m1] at e; simp at e
      | some l =>
        rw [m1] at e; simp at e; subst e
        obtain ⟨q1, q2⟩ := lst cs l vs m1 h1 h3
        exact .tup q1 q2

theorem OR.ren {κ κ' : Kap} {φ φ' : Phi} {O O' : Tab} {h : Heap} {ρ : Nat → Option Nat} (himm : ∀ b, κ b = .imm → κ' b = .imm)
    (hφ : ∀ i j, ρ i = some j → φ i ≠ .un → φ' j = φ i) (hlen : ∀ i j n, ρ i = some j → φ i ≠ .un → PObj.len? (O' j) = some n → PObj.len? (O i) = some n)
    {i j : Nat} (hij : ρ i = some j) (hown : ∀ b, κ b = .own i → κ' b = .own j) {p q : PObj} (e : p.ren ρ = some q) (r : OR κ φ O h i (some p)) : OR κ' φ' O' h j (some q) := by
  cases p with
  | box ty cs =>
    obtain ⟨b, c, h1, h2, h3, h4, h5, h6⟩ := r
    simp only [PObj.ren] at e
    cases m1 : mapO (RV.ren ρ 6) cs with
    | none => rw [m1] at e; simp at e
    | some l =>
      rw [m1] at e; simp at e; subst e
      obtain ⟨g1, g2⟩ := mapO_spec _ cs l m1
      refine ⟨b, c, by rw [hφ i j hij (by rw [h1]; simp)]; exact h1, hown b h2, h3, by omega, h5, fun k x v hx hv => ?_⟩
      have hlt := (List.getElem?_eq_some_iff.1 hx).1
      have hlt2 : k < cs.length := by omega
      have hc : cs[k]? = some cs[k] := by simp [hlt2]
      exact RVR.ren himm hφ hlen 6 _ x v (g2 k _ x hc hx) (h6 k _ v hc hv)
  | gone => simp [PObj.ren] at e; subst e; exact trivial
  | arr ty sz els =>
    simp [PObj.ren] at e; subst e
    rcases r with ⟨h1, h2⟩ | ⟨b, c, fz, h1, h2, h3, h4, h5⟩
    · exact .inl ⟨by rw [hφ i j hij (by rw [h1]; simp)]; exact h1, h2⟩
    · exact .inr ⟨b, c, fz, by rw [hφ i j hij (by rw [h1]; simp)]; exact h1, hown b h2, h3, h4, h5.mono (fun b hb => ⟨himm b hb, rfl⟩)⟩
  | frz sz els =>
    simp [PObj.ren] at e; subst e
    rcases r with ⟨h1, h2⟩ | ⟨b, c, ty, fz, h1, h2, h3, h5⟩
    · exact .inl ⟨by rw [hφ i j hij (by rw [h1]; simp)]; exact h1, h2⟩
    · exact .inr ⟨b, c, ty, fz, by rw [hφ i j hij (by rw [h1]; simp)]; exact h1, himm b h2, h3, h5.mono (fun b hb => ⟨himm b hb, rfl⟩)⟩
  | rar ty cs =>
    obtain ⟨b, c, fz, h1, h2, h3, h4, h5, h6⟩ := r
    simp only [PObj.ren] at e
    cases m1 : mapO (RV.ren ρ 6) cs with
    | none => rw [m1] at e; simp at e
    | some l =>
      rw [m1] at e; simp at e; subst e
      obtain ⟨g1, g2⟩ := mapO_spec _ cs l m1
      refine ⟨b, c, fz, by rw [hφ i j hij (by rw [h1]; simp)]; exact h1, hown b h2, h3, h4, by omega, fun k x v hx hv => ?_⟩
      have hlt := (List.getElem?_eq_some_iff.1 hx).1
      have hlt2 : k < cs.length := by omega
      have hc : cs[k]? = some cs[k] := by simp [hlt2]
      exact ⟨RVR.ren himm hφ hlen 6 _ x v (g2 k _ x hc hx) (h6 k _ v hc hv).1, (h6 k _ v hc hv).2⟩
  | sit s pos =>
    simp [PObj.ren] at e; subst e
    obtain ⟨b, h1, h2, h3⟩ := r
    exact ⟨b, by rw [hφ i j hij (by rw [h1]; simp)]; exact h1, hown b h2, h3⟩
  | mit m =>
    simp only [PObj.ren] at e
    cases hm : ρ m with
    | none => rw [hm] at e; simp at e
    | some m' =>
      rw [hm] at e; simp at e; subst e
      obtain ⟨b, mb, c, h1, h2, h3, h4⟩ := r
      exact ⟨b, mb, c, by rw [hφ i j hij (by rw [h1]; simp)]; exact h1, hown b h2, by rw [hφ m m' hm (by rw [h3]; simp)]; exact h3, h4⟩
  | bld s =>
    simp [PObj.ren] at e; subst e
    obtain ⟨b, c, ty, h1, h2, h3, h4⟩ := r
    refine ⟨b, c, ty, by rw [hφ i j hij (by rw [h1]; simp)]; exact h1, hown b h2, h3, ?_⟩
    rcases h4 with h4 | ⟨b2, cap, c2, ty2, lo, hi, g1, g2, g3⟩
    · exact .inl h4
    · exact .inr ⟨b2, cap, c2, ty2, lo, hi, g1, hown b2 g2, g3⟩
  | map es =>
    simp [PObj.ren] at e; subst e
    obtain ⟨b, mes, clock, h1, h2, h3, h4, h5⟩ := r
    refine ⟨b, mes, clock, by rw [hφ i j hij (by rw [h1]; simp)]; exact h1, hown b h2, h3, h4, fun k x m hx hm => ?_⟩
    obtain ⟨g1, g2, g3⟩ := h5 k x m hx hm
    exact ⟨g1.mono (fun b hb => ⟨himm b hb, rfl⟩), g2.mono (fun b hb => ⟨himm b hb, rfl⟩), g3⟩

def tabOf (objs : List PObj) : Tab := fun i => objs[i]?

/-- A function's contract: what it makes of its arguments and of the objects that they name. -/
def C (P : Program) (f : FuncId) (args : List RV) (objs : List PObj) (Q : RV → List PObj → Prop) : Prop :=
  ∀ (κ : Kap) (φ : Phi) (w : World) (vs : Array Value), (∀ i, OR κ φ (tabOf objs) w.heap i (tabOf objs i)) → Bnd κ w → vs.size = args.length →
    (∀ (i : Nat) (x : RV) (v : Value), args[i]? = some x → vs[i]? = some v → RVR κ φ (tabOf objs) w.heap x v) →
    Calls P f vs w fun e w' => ∃ v r objs' κ' φ', e = .returned v ∧ Q r objs' ∧ RVR κ' φ' (tabOf objs') w'.heap r v ∧ (∀ i, OR κ' φ' (tabOf objs') w'.heap i (tabOf objs' i)) ∧
      Bnd κ' w' ∧ objs.length ≤ objs'.length ∧ Fr κ w κ' w' ∧ Kp φ (tabOf objs) φ' (tabOf objs')

theorem C.mono {f : FuncId} {args : List RV} {objs : List PObj} {Q Q' : RV → List PObj → Prop} (h : C P f args objs Q) (hq : ∀ r o, Q r o → Q' r o) : C P f args objs Q' :=
  fun κ φ w vs h1 h2 h3 h4 => (h κ φ w vs h1 h2 h3 h4).mono fun _ _ ⟨v, r, o, κ', φ', g1, g2, g⟩ => ⟨v, r, o, κ', φ', g1, hq r o g2, g⟩

def idx (i : Nat) : List Nat → Nat → Option Nat
  | [], _ => none
  | x :: r, k => bif Nat.beq x i then some k else idx i r (k + 1)

theorem idx_spec (i : Nat) : ∀ (l : List Nat) (k j : Nat), idx i l k = some j → k ≤ j ∧ l[j - k]? = some i
  | [], k, j, h => by simp [idx] at h
  | x :: r, k, j, h => by
    simp only [idx] at h
    cases hb : Nat.beq x i with
    | true => rw [hb] at h; simp at h; subst h; have := nbE hb; subst this; simp
    | false =>
      rw [hb] at h; simp only [cond_false] at h
      obtain ⟨h1, h2⟩ := idx_spec i r (k + 1) j h
      refine ⟨by omega, ?_⟩
      rw [show j - k = (j - (k + 1)) + 1 by omega]; simpa using h2

theorem idx_mem (i : Nat) : ∀ (l : List Nat) (k : Nat), i ∈ l → ∃ j, idx i l k = some j
  | [], k, h => by simp at h
  | x :: r, k, h => by
    simp only [idx]
    cases hb : Nat.beq x i with
    | true => exact ⟨k, rfl⟩
    | false =>
      rcases List.mem_cons.1 h with rfl | h
      · rw [nbT rfl] at hb; cases hb
      · exact idx_mem i r (k + 1) h

def nodupB : List Nat → Bool
  | [] => true
  | x :: r => !(r.any fun y => Nat.beq y x) && nodupB r

theorem nodupB_spec : ∀ (l : List Nat), nodupB l = true → ∀ (i j x : Nat), l[i]? = some x → l[j]? = some x → i = j
  | [], _, i, j, x, h, _ => by simp at h
  | y :: r, h, i, j, x, hi, hj => by
    simp only [nodupB, Bool.and_eq_true, Bool.not_eq_true'] at h
    have hne : ∀ k, r[k]? ≠ some y := fun k hk => by
      have := List.any_eq_false.1 h.1 y (List.mem_iff_getElem?.2 ⟨k, hk⟩)
      rw [nbT rfl] at this; simp at this
    cases i with
    | zero =>
      simp at hi; subst hi
      cases j with
      | zero => rfl
      | succ j => exact absurd (by simpa using hj) (hne j)
    | succ i =>
      cases j with
      | zero => simp at hj; subst hj; exact absurd (by simpa using hi) (hne i)
      | succ j => have := nodupB_spec r h.2 i j x (by simpa using hi) (by simpa using hj); omega

def zipU : List Nat → List PObj → List (Nat × PObj)
  | i :: r, p :: q => (i, p) :: zipU r q
  | _, _ => []

theorem updO_zip (qs : List Nat) : ∀ (ps : List PObj) (O : Tab), ps.length = qs.length → nodupB qs = true → (∀ (j i : Nat), qs[j]? = some i → updO O (zipU qs ps) i = ps[j]?) ∧ (∀ i, i ∉ qs → updO O (zipU qs ps) i = O i) := by
  induction qs with
  | nil => intro ps O _ _; exact ⟨by simp, fun i _ => by cases ps <;> rfl⟩
  | cons q qs ih =>
    intro ps O hl hn
    cases ps with
    | nil => simp at hl
    | cons p ps =>
      have hn' := hn
      simp only [nodupB, Bool.and_eq_true, Bool.not_eq_true'] at hn'
      obtain ⟨h1, h2⟩ := ih ps (setT O q (some p)) (by simpa using hl) hn'.2
      have hq : q ∉ qs := fun hm => by
        have := List.any_eq_false.1 hn'.1 q hm
        rw [nbT rfl] at this; simp at this
      have hstep : updO O (zipU (q :: qs) (p :: ps)) = updO (setT O q (some p)) (zipU qs ps) := rfl
      rw [hstep]
      refine ⟨fun j i hj => ?_, fun i hi => ?_⟩
      · cases j with
        | zero => simp at hj; subst hj; rw [h2 q hq, setT_same]; rfl
        | succ j => exact h1 j i (by simpa using hj)
      · simp only [List.mem_cons, not_or] at hi
        rw [h2 i hi.2, setT_ne _ _ hi.1]

/-- A state whose objects are handed to a function, and come back. -/
theorem call_core {κ : Kap} {φ : Phi} {w : World} {s : SSt} {a : Act} (F : FRel κ φ w s a) {f : FuncId} {ps : List Nat} {args args' : List RV} {objs : List PObj} {vs : Array Value} {Q : RV → List PObj → Prop}
    (hnd : nodupB ps = true) (hargs : mapO (RV.ren (fun i => idx i ps 0) 6) args = some args')
    (hobjs : mapO (fun i => match s.O i with | some p => p.ren (fun i => idx i ps 0) | none => none) ps = some objs)
    (hC : C P f args' objs Q) (hvs : vs.size = args.length) (hr : ∀ (i : Nat) (x : RV) (v : Value), args[i]? = some x → vs[i]? = some v → RVR κ φ s.O w.heap x v) :
    Calls P f vs w fun e w' => ∃ v r objs', e = .returned v ∧ Q r objs' ∧ ps.length ≤ objs'.length ∧
      ∀ (qs : List Nat) (r'' : RV) (objs'' : List PObj), qs.length = objs'.length → nodupB qs = true → qs.take ps.length = ps → (∀ i ∈ qs.drop ps.length, s.O i = none) →
        mapO (PObj.ren (fun j => qs[j]?)) objs' = some objs'' → RV.ren (fun j => qs[j]?) 6 r = some r'' →
        ∃ κ' φ', FRel κ' φ' w' { s with O := updO s.O (zipU qs objs'') } a ∧ RVR κ' φ' (updO s.O (zipU qs objs'')) w'.heap r'' v ∧ Fr κ w κ' w' ∧ Kp φ s.O φ' (updO s.O (zipU qs objs'')) := by
  obtain ⟨a1, a2⟩ := mapO_spec _ args args' hargs
  obtain ⟨o1, o2⟩ := mapO_spec _ ps objs hobjs
  -- what the callee sees
  let κc : Kap := fun b => match κ b with
    | .imm => .imm
    | .own i => match idx i ps 0 with | some j => .own j | none => .oth
    | .oth => .oth
  let φc : Phi := fun j => match ps[j]? with | some i => φ i | none => .un
  have idxps : ∀ (i j : Nat), idx i ps 0 = some j → ps[j]? = some i := fun i j h => by have := (idx_spec i ps 0 j h).2; simpa using this
  have psidx : ∀ (i j : Nat), ps[j]? = some i → idx i ps 0 = some j := fun i j h => by
    obtain ⟨k, hk⟩ := idx_mem i ps 0 (List.mem_iff_getElem?.2 ⟨j, h⟩)
    rw [hk, nodupB_spec ps hnd k j i (idxps i k hk) h]
  have himm : ∀ b, κ b = .imm → κc b = .imm := fun b hb => by simp only [κc, hb]
  have hφc : ∀ (i j : Nat), idx i ps 0 = some j → φ i ≠ .un → φc j = φ i := fun i j h _ => by simp only [φc, idxps i j h]
  have objAt : ∀ (j i : Nat), ps[j]? = some i → ∃ p q, s.O i = some p ∧ p.ren (fun i => idx i ps 0) = some q ∧ objs[j]? = some q := by
    intro j i h
    have hlt := (List.getElem?_eq_some_iff.1 h).1
    have hlt2 : j < objs.length := by omega
    have hq : objs[j]? = some objs[j] := by simp [hlt2]
    have := o2 j i _ h hq
    cases e : s.O i with
    | none => simp only [e] at this; cases this
    | some p => simp only [e] at this; exact ⟨p, _, rfl, this, hq⟩
  have lenren : ∀ (ρ : Nat → Option Nat) (p q : PObj), p.ren ρ = some q → PObj.len? (some q) = PObj.len? (some p) := by
    intro ρ p q h
    cases p <;> simp only [PObj.ren] at h <;> try (injection h with h; subst h; rfl)
    · split at h
      · injection h with h; subst h; rfl
      · simp at h
    · split at h
      · rename_i hm
        injection h with h; subst h; simp only [PObj.len?, (mapO_spec _ _ _ hm).1]
      · simp at h
    · split at h
      · injection h with h; subst h; rfl
      · simp at h
  have hlenc : ∀ (i j n : Nat), idx i ps 0 = some j → φ i ≠ .un → PObj.len? (tabOf objs j) = some n → PObj.len? (s.O i) = some n := by
    intro i j n h _ hn
    obtain ⟨p, q, e1, e2, e3⟩ := objAt j i (idxps i j h)
    rw [e1, ← lenren _ p q e2]; simp only [tabOf, e3] at hn; exact hn
  have pre1 : ∀ j, OR κc φc (tabOf objs) w.heap j (tabOf objs j) := by
    intro j
    cases hj : ps[j]? with
    | none =>
      have : objs[j]? = none := by rw [List.getElem?_eq_none_iff] at hj ⊢; omega
      simp only [tabOf, this]
      show φc j = .un
      simp only [φc, hj]
    | some i =>
      obtain ⟨p, q, e1, e2, e3⟩ := objAt j i hj
      simp only [tabOf, e3]
      have ho := F.objs i
      rw [e1] at ho
      exact OR.ren (ρ := fun i => idx i ps 0) himm hφc hlenc (psidx i j hj) (fun b hb => by simp only [κc, hb, psidx i j hj]) e2 ho
  have pre2 : Bnd κc w := F.bnd.same (fun b e => by simp only [κc, e])
  have pre3 : ∀ (i : Nat) (x : RV) (v : Value), args'[i]? = some x → vs[i]? = some v → RVR κc φc (tabOf objs) w.heap x v := by
    intro i x v hx hv
    have hlt := (List.getElem?_eq_some_iff.1 hx).1
    have hlt2 : i < args.length := by omega
    have hq : args[i]? = some args[i] := by simp [hlt2]
    exact RVR.ren (ρ := fun i => idx i ps 0) himm hφc hlenc 6 _ x v (a2 i _ x hq hx) (hr i _ v hq hv)
  refine (hC κc φc w vs pre1 pre2 (by omega) pre3).mono ?_
  rintro e w' ⟨v, r, objs', κ1, φ1, rfl, hQ, hres, hob, hbd, hle, hfr, hkp⟩
  refine ⟨v, r, objs', rfl, hQ, by omega, ?_⟩
  intro qs r'' objs'' q1 q2 q3 q4 q5 q6
  obtain ⟨b1, b2⟩ := mapO_spec _ objs' objs'' q5
  obtain ⟨z1, z2⟩ := updO_zip qs objs'' s.O (by omega) q2
  have qsps : ∀ (j i : Nat), ps[j]? = some i → qs[j]? = some i := fun j i h => by
    have hlt := (List.getElem?_eq_some_iff.1 h).1
    rw [← q3, List.getElem?_take, if_pos hlt] at h; exact h
  have qsnew : ∀ (j i : Nat), qs[j]? = some i → ps.length ≤ j → s.O i = none := fun j i h hj => q4 i (by
    refine List.mem_iff_getElem?.2 ⟨j - ps.length, ?_⟩
    rw [List.getElem?_drop]; rw [show ps.length + (j - ps.length) = j by omega]; exact h)
  have unNone : ∀ i, s.O i = none → φ i = .un := fun i h => by have := F.objs i; rw [h] at this; exact this
  -- what the caller sees behind the call
  let κ2 : Kap := fun b => if b < w.heap.size ∧ κc b = .oth then κ b else match κ1 b with
    | .imm => .imm
    | .own j => match qs[j]? with | some i => .own i | none => .oth
    | .oth => .oth
  let φ2 : Phi := fun i => match idx i qs 0 with | some j => φ1 j | none => φ i
  have qidx : ∀ (i j : Nat), qs[j]? = some i → idx i qs 0 = some j := fun i j h => by
    obtain ⟨k, hk⟩ := idx_mem i qs 0 (List.mem_iff_getElem?.2 ⟨j, h⟩)
    have := (idx_spec i qs 0 k hk).2
    rw [hk, nodupB_spec qs q2 k j i (by simpa using this) h]
  have idxq : ∀ (i j : Nat), idx i qs 0 = some j → qs[j]? = some i := fun i j h => by have := (idx_spec i qs 0 j h).2; simpa using this
  have k1oth : ∀ b, b < w.heap.size → κc b = .oth → κ1 b = .oth ∧ w'.heap[b]? = w.heap[b]? := fun b hb h => hfr.oth b hb h
  have himm2 : ∀ b, κ1 b = .imm → κ2 b = .imm := fun b hb => by
    simp only [κ2]
    rw [if_neg (fun h => by have := (k1oth b h.1 h.2).1; rw [hb] at this; cases this), hb]
  have hφ2 : ∀ (j i : Nat), qs[j]? = some i → φ1 j ≠ .un → φ2 i = φ1 j := fun j i h _ => by simp only [φ2, qidx i j h]
  have hlen2 : ∀ (j i n : Nat), qs[j]? = some i → φ1 j ≠ .un → PObj.len? (updO s.O (zipU qs objs'') i) = some n → PObj.len? (tabOf objs' j) = some n := by
    intro j i n h _ hn
    have hlt := (List.getElem?_eq_some_iff.1 h).1
    have hlt2 : j < objs'.length := by omega
    have hlt3 : j < objs''.length := by omega
    have g1 : objs'[j]? = some objs'[j] := by simp [hlt2]
    have g2 : objs''[j]? = some objs''[j] := by simp [hlt3]
    rw [z1 j i h, g2, lenren _ _ _ (b2 j _ _ g1 g2)] at hn
    simp only [tabOf, g1]; exact hn
  have phiPs : ∀ i, φ i ≠ .un → φ2 i = φ i := by
    intro i hi
    simp only [φ2]
    cases hx : idx i qs 0 with
    | none => rfl
    | some j =>
      have hj := idxq i j hx
      simp only
      by_cases hlt : j < ps.length
      · have hp : ps[j]? = some i := by
          have : (qs.take ps.length)[j]? = some i := by rw [List.getElem?_take, if_pos hlt]; exact hj
          rw [q3] at this; exact this
        have e1 : φc j = φ i := by simp only [φc, hp]
        rw [hkp.phi j (by rw [e1]; exact hi), e1]
      · exact absurd (unNone i (qsnew j i hj (by omega))) hi
  have M : Mono κ φ s.O w.heap κ2 φ2 (updO s.O (zipU qs objs'')) w'.heap :=
    { imm := fun b hb => by
        have h1 := himm b hb
        have h2 := hfr.imm b h1
        exact ⟨himm2 b h2.1, h2.2⟩
      shp := hfr.shp
      phi := phiPs
      len := fun i n hi hn => by
        by_cases hm : i ∈ qs
        · obtain ⟨j, hj⟩ := List.mem_iff_getElem?.1 hm
          by_cases hlt : j < ps.length
          · have hp : ps[j]? = some i := by
              have : (qs.take ps.length)[j]? = some i := by rw [List.getElem?_take, if_pos hlt]; exact hj
              rw [q3] at this; exact this
            have e1 : φc j = φ i := by simp only [φc, hp]
            have e2 : φ1 j = φ i := by rw [hkp.phi j (by rw [e1]; exact hi), e1]
            have h3 := hlen2 j i n hj (by rw [e2]; exact hi) hn
            have h4 := hkp.len j n (by rw [e1]; exact hi) h3
            exact hlenc i j n (psidx i j hp) hi h4
          · exact absurd (unNone i (qsnew j i hj (by omega))) hi
        · rw [z2 i hm] at hn; exact hn }
  have hfr2 : Fr κ w κ2 w' := ⟨hfr.size, M.imm, fun b hb ho => by
    have hoc : κc b = .oth := by simp only [κc, ho]
    refine ⟨?_, (k1oth b hb hoc).2⟩
    simp only [κ2]; rw [if_pos ⟨hb, hoc⟩]; exact ho, hfr.shp, hfr.os, hfr.out⟩
  refine ⟨κ2, φ2, ⟨fun t => (F.regs t).mono M, fun i => ?_, F.bnd.step hfr2 (fun b hb => ?_), F.n, F.df.mono M⟩, ?_, hfr2, M.kp⟩
  · by_cases hm : i ∈ qs
    · obtain ⟨j, hj⟩ := List.mem_iff_getElem?.1 hm
      have hlt := (List.getElem?_eq_some_iff.1 hj).1
      have hlt2 : j < objs'.length := by omega
      have hlt3 : j < objs''.length := by omega
      have g1 : objs'[j]? = some objs'[j] := by simp [hlt2]
      have g2 : objs''[j]? = some objs''[j] := by simp [hlt3]
      simp only [z1 j i hj, g2]
      have ho := hob j
      simp only [tabOf, g1] at ho
      exact OR.ren (ρ := fun j => qs[j]?) himm2 (fun j i h h' => hφ2 j i h h') (fun j i n h h' => hlen2 j i n h h') hj (fun b hb => by
        simp only [κ2]
        rw [if_neg (fun h => by have := (k1oth b h.1 h.2).1; rw [hb] at this; cases this), hb]
        simp only [hj]) (b2 j _ _ g1 g2) ho
    · simp only [z2 i hm]
      have hx : idx i qs 0 = none := by
        cases hx : idx i qs 0 with
        | none => rfl
        | some j => exact absurd (List.mem_iff_getElem?.2 ⟨j, idxq i j hx⟩) hm
      have hxp : idx i ps 0 = none := by
        cases hx : idx i ps 0 with
        | none => rfl
        | some j => exact absurd (List.mem_iff_getElem?.2 ⟨j, qsps j i (idxps i j hx)⟩) hm
      refine (F.objs i).mono M (fun b hb => ?_) (by simp only [φ2, hx])
      have hlt := F.bnd.lt b (by rw [hb]; simp)
      have hoc : κc b = .oth := by simp only [κc, hb, hxp]
      refine ⟨?_, (k1oth b hlt hoc).2⟩
      simp only [κ2]; rw [if_pos ⟨hlt, hoc⟩]; exact hb
  · simp only [κ2] at hb
    split at hb
    · rename_i h; exact Nat.lt_of_lt_of_le h.1 hfr.size
    · refine hbd.lt b (fun e => ?_)
      rw [e] at hb; exact hb rfl
  · exact RVR.ren (ρ := fun j => qs[j]?) himm2 (fun j i h h' => hφ2 j i h h') (fun j i n h h' => hlen2 j i n h h') 6 r r'' v q6 hres

end Go.Am

/-
  The abstract machine: maps whose keys are numbers, strings, bools.
-/
namespace Go.Am
set_option linter.unusedSectionVars false
open Go.MapKept
variable {P : Program} [Gl]

def keq : DV → DV → Bool
  | .int _ a, .int _ b => a == b
  | .str a, .str b => a == b
  | .bool a, .bool b => a == b
  | _, _ => false

/-- A key of a type. -/
def keyOk : Option TypeDesc → DV → Bool
  | some (.int k), .int k' _ => kindEq k k'
  | some .string, .str _ => true
  | some .bool, .bool _ => true
  | _, _ => false

def mhas (k : DV) (es : List (DV × DV)) : Bool := es.any fun p => keq k p.1
def mget (k z : DV) : List (DV × DV) → DV
  | [] => z
  | p :: r => bif keq k p.1 then p.2 else mget k z r
def mput (k v : DV) : List (DV × DV) → List (DV × DV)
  | [] => [(k, v)]
  | p :: r => bif keq k p.1 then (k, v) :: r else p :: mput k v r
def mdel (k : DV) : List (DV × DV) → List (DV × DV)
  | [] => []
  | p :: r => bif keq k p.1 then r else p :: mdel k r

def keysOk (d : Option TypeDesc) (es : List (DV × DV)) : Bool := es.all fun p => keyOk d p.1

theorem kindEq_eq {a b : IntKind} (h : kindEq a b = true) : a = b := by cases a <;> cases b <;> first | rfl | (simp [kindEq] at h)

theorem key_val {κ : Kap} {h : Heap} {d : TypeDesc} {k : DV} {v : Value} (hk : keyOk (some d) k = true) (r : DR κ h k v) : IsKey d v := by
  cases r <;> cases d <;> simp_all [keyOk, IsKey]
  exact (kindEq_eq hk).symm

theorem keq_iff {κ : Kap} {h : Heap} {d : TypeDesc} {k x : DV} {v u : Value} (hk : keyOk (some d) k = true) (hx : keyOk (some d) x = true) (r : DR κ h k v) (q : DR κ h x u) : keq k x = true ↔ v = u := by
  cases d <;> cases k <;> (try (simp [keyOk] at hk; done)) <;> cases x <;> (try (simp [keyOk] at hx; done)) <;> cases r <;> cases q <;> simp_all [keq, keyOk]
  have h1 := kindEq_eq hk
  have h2 := kindEq_eq hx
  rw [← h1, ← h2]; simp

/-- What is found, and what the list's own functions say of it. -/
theorem find_spec {κ : Kap} {h : Heap} {d : TypeDesc} {k : DV} {kv : Value} (hk : keyOk (some d) k = true) (rk : DR κ h k kv) :
    ∀ (es : List (DV × DV)) (ml : List MapEntry) (n : Nat), ml.length = es.length → keysOk (some d) es = true →
      (∀ (j : Nat) (x : DV × DV) (e : MapEntry), es[j]? = some x → ml[j]? = some e → DR κ h x.1 e.key ∧ DR κ h x.2 e.val) →
      (Instr.findNow d kv ml n = some none ∧ mhas k es = false ∧ (∀ z, mget k z es = z) ∧ (∀ v, mput k v es = es ++ [(k, v)]) ∧ mdel k es = es) ∨
      ∃ j x e, Instr.findNow d kv ml n = some (some (n + j, e.val)) ∧ es[j]? = some x ∧ ml[j]? = some e ∧ e.key = kv ∧ mhas k es = true ∧ (∀ z, mget k z es = x.2) ∧ (∀ v, mput k v es = es.set j (k, v)) ∧ mdel k es = es.eraseIdx j
  | [], [], n, _, _, _ => .inl ⟨rfl, rfl, fun _ => rfl, fun _ => rfl, rfl⟩
  | [], _ :: _, _, hl, _, _ => by simp at hl
  | _ :: _, [], _, hl, _, _ => by simp at hl
  | x :: es, e :: ml, n, hl, hks, hr => by
    simp only [keysOk, List.all_cons, Bool.and_eq_true] at hks
    obtain ⟨r1, r2⟩ := hr 0 x e rfl rfl
    obtain ⟨r, hs, hiff⟩ := sameNow_of_keys (key_val hk rk) (key_val hks.1 r1)
    have hq := keq_iff hk hks.1 rk r1
    cases r with
    | true =>
      have e1 : kv = e.key := hiff.1 rfl
      have e2 : keq k x.1 = true := hq.2 e1
      exact .inr ⟨0, x, e, by simp [Instr.findNow, hs], rfl, rfl, e1.symm, by simp [mhas, e2], fun z => by simp [mget, e2], fun v => by simp [mput, e2], by simp [mdel, e2]⟩
    | false =>
      have e2 : keq k x.1 = false := by
        cases hh : keq k x.1 with
        | false => rfl
        | true => exact absurd (hiff.2 (hq.1 hh)) (by simp)
      rcases find_spec hk rk es ml (n + 1) (by simpa using hl) hks.2 (fun j y f hy hf => hr (j + 1) y f (by simpa using hy) (by simpa using hf)) with ⟨h1, h2, h3, h4, h5⟩ | ⟨j, y, f, h1, h2, h3, h4, h5, h6, h7, h8⟩
      · exact .inl ⟨by simp [Instr.findNow, hs, h1], by simpa [mhas, e2] using h2, fun z => by simp [mget, e2, h3], fun v => by simp [mput, e2, h4], by simp [mdel, e2, h5]⟩
      · exact .inr ⟨j + 1, y, f, by simp [Instr.findNow, hs, h1]; omega, by simpa using h2, by simpa using h3, h4, by simp [mhas, e2]; simpa [mhas] using h5, fun z => by simp [mget, e2, h6], fun v => by simp [mput, e2, h7], by simp [mdel, e2, h8]⟩

def exMakeMap (O : Tab) (sl : Nat) (hint : Option RV) : Option Res :=
  match O sl, hint with
  | none, none => some { val := .map sl, upd := [(sl, .map [])] }
  | _, _ => none

/-- A map's rows, wherever it lies. -/
def rowsOf (O : Tab) : RV → Option (List (DV × DV))
  | .d .nilm => some []
  | .map i => match O i with
    | some (.map es) => some es
    | _ => none
  | _ => none

def exLookup (E : Env) (O : Tab) (t : Nat) (x k : RV) (ok : Bool) : Option Res :=
  match E.und t, rowsOf O x, k with
  | some (.map kt et), some es, .d k => match E.zero et with
    | some z => bif keyOk (E.und kt) k then
        some { val := bif ok then .d (.tup [mget k z es, .bool (mhas k es)]) else .d (mget k z es), conds := [keysOk (E.und kt) es] }
      else none
    | none => none
  | _, _, _ => none

def exMapUpdate (E : Env) (O : Tab) (t : Nat) (m k v : RV) : Option Res :=
  match E.und t, m, k with
  | some (.map kt _), .map i, .d k => match tkDV O v, O i with
    | some (y, u, c), some (.map es) => bif keyOk (E.und kt) k && (u.all fun p => !(Nat.beq p.1 i)) then
        some { val := .bot, upd := u ++ [(i, .map (mput k y es))], conds := keysOk (E.und kt) es :: c }
      else none
    | _, _ => none
  | _, _, _ => none

def exDelete (E : Env) (O : Tab) (t : Nat) (m k : RV) : Option Res :=
  match E.und t, m, k with
  | some (.map kt _), .map i, .d k => match O i with
    | some (.map es) => bif keyOk (E.und kt) k then
        some { val := .d (.tup []), upd := [(i, .map (mdel k es))], conds := [keysOk (E.und kt) es] }
      else none
    | _ => none
  | _, _, _ => none

theorem run_makeMap' (t : Nat) (w : World) : (Instr.makeMap t none).run P w = .ok (.map (some w.heap.size)) { w with heap := w.heap.push (.map #[] 0) } := rfl

theorem makeMap_ok {κ : Kap} {φ : Phi} {w : World} {s : SSt} {a : Act} (F : FRel κ φ w s a) {sl t : Nat} {res : Res} (hx : exMakeMap s.O sl none = some res) : Out P κ φ w s a res.val res.upd (Instr.makeMap t none) := by
  unfold exMakeMap at hx
  split at hx
  · rename_i hO _
    injection hx with hx; subst hx
    obtain ⟨q1, q2, q3⟩ := F.alloc (i := sl) (p := .map []) (o := .map #[] 0) (w' := { w with heap := w.heap.push (.map #[] 0) }) rfl hO
      (fun _ => ⟨w.heap.size, #[], 0, setP_same _ _ _, setK_same _ _ _, heap_push_eq _ _, ⟨rfl, by simp⟩, fun j x e hx => by simp at hx⟩)
    exact ⟨_, _, _, _, run_makeMap' t w, q1, .map (setP_same _ _ _), q3, q2.kp⟩
  · cases hx

theorem lookup_ok {κ : Kap} {φ : Phi} {w : World} {s : SSt} {a : Act} (F : FRel κ φ w s a) {t : Nat} {x k : RV} {ok : Bool} {v u : Value} {res : Res}
    (hx : exLookup (Env.of P) s.O t x k ok = some res) (hc : ∀ b ∈ res.conds, b = true) (r : RVR κ φ s.O w.heap x v) (r2 : RVR κ φ s.O w.heap k u) :
    Out P κ φ w s a res.val res.upd (Instr.lookup t v u ok) := by
  unfold exLookup at hx
  split at hx
  · rename_i kt et es kd hu hrows
    cases hz : (Env.of P).zero et with
    | none => rw [hz] at hx; simp at hx
    | some z =>
      rw [hz] at hx; simp only at hx
      cases hk : keyOk ((Env.of P).und kt) kd with
      | false => rw [hk] at hx; simp at hx
      | true =>
        rw [hk] at hx; simp only [cond_true, Option.some.injEq] at hx; subst hx
        cases hd : (Env.of P).und kt with
        | none => rw [hd] at hk; simp [keyOk] at hk
        | some d =>
          rw [hd] at hk
          have hks : keysOk (some d) es = true := by have := hc (keysOk ((Env.of P).und kt) es) (by simp); rw [hd] at this; exact this
          cases r2 with
          | d rk =>
          have hu' : P.underlying t = some (.map kt et) := hu
          have hd' : P.underlying kt = some d := hd
          obtain ⟨zv, hz1, hz2⟩ := run_zeroValue hz w
          have fin : ∀ (ml : List MapEntry), ml.length = es.length → (∀ (j : Nat) (x : DV × DV) (e : MapEntry), es[j]? = some x → ml[j]? = some e → DR κ w.heap x.1 e.key ∧ DR κ w.heap x.2 e.val) →
              (∀ (r : Value), ((do
                Instr.checkKey ml.toArray.isEmpty 10000 kt u
                let (v, ok') ← match ← Instr.findKey kt u ml with
                  | some (_, v) => pure (v, true)
                  | none => pure (← zeroValue et, false)
                pure (if ok then .tuple #[v, .bool ok'] else v) : Sem Value)).run P w = .ok r w → (Instr.lookup t v u ok).run P w = .ok r w) →
              Out P κ φ w s a (bif ok then .d (.tup [mget kd z es, .bool (mhas kd es)]) else .d (mget kd z es)) [] (Instr.lookup t v u ok) := by
            intro ml hl hr hrun
            rcases find_spec hk rk es ml 0 hl hks hr with ⟨h1, h2, h3, _, _⟩ | ⟨j, y, e, h1, h2, h3, h4, h5, h6, _, _⟩
            · have hf : (Instr.findKey kt u ml).run P w = .ok none w := run_findKey hd' h1
              refine Out.pure (v := if ok then .tuple #[zv, .bool false] else zv) F (hrun _ ?_) ?_
              · simp only [Sem.run_bind, run_checkKey hd' (key_val hk rk), hf, hz1, Result.andThen_ok, Sem.run_pure]
              · rw [h2, h3]
                cases ok with
                | true => exact .d (.tup rfl (fun i x v hx hv => by
                    match i, hx, hv with
                    | 0, hx, hv => simp at hx hv; subst hx; subst hv; exact ofVal_DR hz2
                    | 1, hx, hv => simp at hx hv; subst hx; subst hv; exact .bool _
                    | i + 2, hx, hv => simp at hx))
                | false => exact .d (ofVal_DR hz2)
            · have hf : (Instr.findKey kt u ml).run P w = .ok (some (0 + j, e.val)) w := run_findKey hd' h1
              have q := (hr j y e h2 h3).2
              refine Out.pure (v := if ok then .tuple #[e.val, .bool true] else e.val) F (hrun _ ?_) ?_
              · simp only [Sem.run_bind, run_checkKey hd' (key_val hk rk), hf, Result.andThen_ok, Sem.run_pure]
              · rw [h5, h6]
                cases ok with
                | true => exact .d (.tup rfl (fun i x v hx hv => by
                    match i, hx, hv with
                    | 0, hx, hv => simp at hx hv; subst hx; subst hv; exact q
                    | 1, hx, hv => simp at hx hv; subst hx; subst hv; exact .bool _
                    | i + 2, hx, hv => simp at hx))
                | false => exact .d q
          unfold rowsOf at hrows
          split at hrows
          · injection hrows with hrows; subst hrows
            cases r with
            | d hr =>
            cases hr
            refine fin [] rfl (by simp) (fun r hr => ?_)
            rw [← hr]
            simp only [Instr.lookup, Sem.run_bind, run_underlying hu', Result.andThen_ok, Sem.run_pure]
            rfl
          · rename_i i
            have ho := F.objs i
            cases hO : s.O i with
            | none => rw [hO] at hrows; simp at hrows
            | some p =>
              rw [hO] at hrows ho
              cases p <;> simp only at hrows <;> try (simp at hrows; done)
              injection hrows with hrows; subst hrows
              obtain ⟨b, mes, clock, g1, g2, g3, g4, g5⟩ := ho
              cases r with
              | map hφ =>
              rename_i b2
              have : b = b2 := by rw [g1] at hφ; injection hφ
              subst this
              refine fin mes.toList (by simpa using g4.1) (fun j x e hx he => ⟨(g5 j x e hx (by simpa using he)).1, (g5 j x e hx (by simpa using he)).2.1⟩) (fun r hr => ?_)
              rw [← hr]
              simp only [Instr.lookup, Sem.run_bind, run_underlying hu', Result.andThen_ok, Go.MapKept.run_getObj_map g3, Sem.run_pure]
              rfl
          · cases hrows
  · cases hx

theorem updO_add (O : Tab) (u : List (Nat × PObj)) (i : Nat) (p : PObj) : updO O (u ++ [(i, p)]) = setT (updO O u) i (some p) := by simp [updO]

/-- A map's block gets other entries. -/
theorem map_write {κ : Kap} {φ : Phi} {w : World} {s : SSt} {a : Act} (F : FRel κ φ w s a) {i b : Nat} {es' : List (DV × DV)} {mes mes' : Array MapEntry} {clock clock' : Nat}
    (g1 : φ i = .at b) (g2 : κ b = .own i) (g3 : w.heap[b]? = some (.map mes clock)) (hsz : SzOk mes' es'.length)
    (hr : ∀ (j : Nat) (x : DV × DV) (e : MapEntry), es'[j]? = some x → mes'[j]? = some e → DR κ w.heap x.1 e.key ∧ DR κ w.heap x.2 e.val ∧ e.born < clock') :
    FRel κ φ (World.row w b (.map mes' clock')) { s with O := setT s.O i (some (.map es')) } a ∧ Mono κ φ s.O w.heap κ φ (setT s.O i (some (.map es'))) (World.row w b (.map mes' clock')).heap ∧ Fr κ w κ (World.row w b (.map mes' clock')) :=
  F.write g2 g1 (fun c ty fz h => by rw [g3] at h; simp at h) (fun n hn => by simp [PObj.len?] at hn)
    (fun M => ⟨b, mes', clock', g1, g2, row_heap g3, hsz, fun j x e hx he => ⟨(hr j x e hx he).1.mono M.imm, (hr j x e hx he).2.1.mono M.imm, (hr j x e hx he).2.2⟩⟩)

theorem nodup_push {mes : Array MapEntry} {e : MapEntry} (h : (mes.toList.map fun e => e.born).Nodup) (hb : ∀ x ∈ mes.toList, x.born < e.born) : ((mes.push e).toList.map fun e => e.born).Nodup := by
  rw [Array.toList_push, List.map_append]
  refine List.nodup_append.2 ⟨h, by simp, fun a ha b hb' => ?_⟩
  simp only [List.map_cons, List.map_nil, List.mem_singleton] at hb'
  subst hb'
  obtain ⟨x, hx, rfl⟩ := List.mem_map.1 ha
  have := hb x hx
  omega
theorem nodup_modify {mes : Array MapEntry} {i : Nat} {f : MapEntry → MapEntry} (hf : ∀ e, (f e).born = e.born) (h : (mes.toList.map fun e => e.born).Nodup) : ((mes.modify i f).toList.map fun e => e.born).Nodup := by
  have : ((mes.modify i f).toList.map fun e => e.born) = (mes.toList.map fun e => e.born) := by
    apply List.ext_getElem?
    intro j
    rw [List.getElem?_map, List.getElem?_map, Array.getElem?_toList, Array.getElem?_toList, Array.getElem?_modify]
    split
    · cases mes[j]? <;> simp [hf]
    · rfl
  rw [this]; exact h
theorem nodup_erase {mes : Array MapEntry} {i : Nat} (h : (mes.toList.map fun e => e.born).Nodup) : ((mes.eraseIdxIfInBounds i).toList.map fun e => e.born).Nodup := by
  have : (mes.eraseIdxIfInBounds i).toList = mes.toList.eraseIdx i := by simp
  rw [this]
  exact h.sublist ((List.eraseIdx_sublist _ _).map _)

theorem sameBits_key (n : Nat) {d : TypeDesc} {v : Value} (h : IsKey d v) : Instr.sameBits n v v = true := by
  cases v with
  | bool b => simp [Instr.sameBits]
  | int k n => simp [Instr.sameBits]
  | string s => simp [Instr.sameBits, bytes_beq]
  | _ => cases d <;> simp [IsKey] at h

theorem mapUpdate_ok {κ : Kap} {φ : Phi} {w : World} {s : SSt} {a : Act} (F : FRel κ φ w s a) {t : Nat} {m k y : RV} {mv kv yv : Value} {res : Res}
    (hx : exMapUpdate (Env.of P) s.O t m k y = some res) (hc : ∀ b ∈ res.conds, b = true) (r : RVR κ φ s.O w.heap m mv) (r2 : RVR κ φ s.O w.heap k kv) (r3 : RVR κ φ s.O w.heap y yv) :
    OutU P κ φ w s a res.upd (Instr.mapUpdate t mv kv yv) := by
  unfold exMapUpdate at hx
  split at hx
  · rename_i kt et i kd hu
    split at hx
    · rename_i yd u c es htk hO
      cases hg : (keyOk ((Env.of P).und kt) kd && (u.all fun p => !(Nat.beq p.1 i))) with
      | false => rw [hg] at hx; simp at hx
      | true =>
        rw [hg] at hx; simp only [cond_true, Option.some.injEq] at hx; subst hx
        simp only [Bool.and_eq_true] at hg
        obtain ⟨hk, hui⟩ := hg
        cases hd : (Env.of P).und kt with
        | none => rw [hd] at hk; simp [keyOk] at hk
        | some d =>
          rw [hd] at hk
          have hks : keysOk (some d) es = true := by have := hc (keysOk ((Env.of P).und kt) es) (by simp); rw [hd] at this; exact this
          obtain ⟨κ1, F1, M1, R1, _, ry⟩ := tkDV_ok F (Frzd.refl _) htk (fun b hb => hc b (by simp [hb])) r3
          have r2' := r2.mono M1
          have r' := r.mono M1
          cases r2' with
          | d rk =>
          have hu' : P.underlying t = some (.map kt et) := hu
          have hd' : P.underlying kt = some d := hd
          have hO1 : updO s.O u i = some (.map es) := by rw [updO_other _ _ hui]; exact hO
          have ho := F1.objs i
          simp only [hO1] at ho
          obtain ⟨b, mes, clock, g1, g2, g3, ⟨g4, gn⟩, g5⟩ := ho
          cases r' with
          | map hφ =>
          rename_i b2
          have : b = b2 := by rw [g1] at hφ; injection hφ
          subst this
          have hq : ∀ (o : Obj), (setObj b o).run P w = .ok () (World.row w b o) := fun o => Go.MapKept.run_setObj_map o g3
          have fin : ∀ (mes' : Array MapEntry) (clock' : Nat), SzOk mes' (mput kd yd es).length → (∀ (j : Nat) (x : DV × DV) (e : MapEntry), (mput kd yd es)[j]? = some x → mes'[j]? = some e → DR κ1 w.heap x.1 e.key ∧ DR κ1 w.heap x.2 e.val ∧ e.born < clock') →
              (Instr.mapUpdate t (.map (some b)) kv yv).run P w = .ok () (World.row w b (.map mes' clock')) → OutU P κ φ w s a (u ++ [(i, .map (mput kd yd es))]) (Instr.mapUpdate t (.map (some b)) kv yv) := by
            intro mes' clock' h1 h2 h3
            obtain ⟨q1, q2, q3⟩ := map_write F1 (i := i) (es' := mput kd yd es) g1 g2 g3 h1 h2
            refine ⟨_, κ1, φ, h3, ?_, R1.trans q3, ?_⟩
            · rw [updO_add]; exact q1
            · rw [updO_add]; exact M1.kp.trans q2.kp
          have hrun : ∀ (o : Option (Nat × Value)), Instr.findNow d kv mes.toList 0 = some o → (Instr.mapUpdate t (.map (some b)) kv yv).run P w = ((match o with
              | some (i, _) => do
                let key ← Instr.keyThatStays (((mes[i]?).map (·.key)).getD kv) kv
                setObj b (.map (mes.modify i fun e => { e with key, val := yv }) clock)
              | none => setObj b (.map (mes.push { key := kv, val := yv, born := clock }) (clock + 1))) : Sem Unit).run P w := by
            intro o h
            simp only [Instr.mapUpdate, Sem.run_bind, run_underlying hu', Result.andThen_ok, Go.MapKept.run_getObj_map g3, run_checkKey hd' (key_val hk rk), run_findKey hd' h]
            cases o <;> rfl
          rcases find_spec hk rk es mes.toList 0 (by simpa using g4) hks (fun j x e hx he => ⟨(g5 j x e hx (by simpa using he)).1, (g5 j x e hx (by simpa using he)).2.1⟩) with ⟨h1, _, _, h4, _⟩ | ⟨j, x0, e, h1, h2, h3, h4, _, _, h7, _⟩
          · refine fin (mes.push { key := kv, val := yv, born := clock }) (clock + 1) ⟨by rw [h4]; simp [g4], nodup_push gn (fun x hx => by
              obtain ⟨j, hj, he⟩ := List.mem_iff_getElem.1 hx
              simp at hj
              have hj2 : j < es.length := by omega
              exact (g5 j es[j] x (by simp [hj2]) (by rw [← he]; simp [hj])).2.2)⟩ (fun j x e hx he => ?_) (by rw [hrun _ h1]; exact hq _)
            rw [h4] at hx
            by_cases hj : j < es.length
            · rw [List.getElem?_append_left hj] at hx
              rw [Array.getElem?_push_lt (by omega)] at he
              have he' : mes[j]? = some e := by rw [← he]; simp [show j < mes.size by omega]
              obtain ⟨q1, q2, q3⟩ := g5 j x e hx he'
              exact ⟨q1, q2, by omega⟩
            · have hj2 : j = es.length := by
                have := (List.getElem?_eq_some_iff.1 hx).1; simp at this; omega
              subst hj2
              rw [← g4] at he
              simp at hx he
              subst hx; subst he
              exact ⟨rk, ry, by simp⟩
          · have hj : j < mes.size := by have := (List.getElem?_eq_some_iff.1 h3).1; simpa using this
            have hme : mes[j]? = some e := by simpa using h3
            have hkey : (Instr.keyThatStays (((mes[0 + j]?).map (·.key)).getD kv) kv).run P w = .ok kv w := by
              have : ((mes[0 + j]?).map (·.key)).getD kv = kv := by rw [Nat.zero_add, hme]; simp [h4]
              rw [this]
              have hsb : Instr.sameBits 10000 kv kv = true := sameBits_key 10000 (key_val hk rk)
              simp [Instr.keyThatStays, hsb]
            refine fin (mes.modify (0 + j) fun e => { e with key := kv, val := yv }) clock ⟨by rw [h7]; simp [g4], nodup_modify (fun _ => rfl) gn⟩ (fun j' x e' hx he => ?_) (by
              rw [hrun _ h1]; simp only [Sem.run_bind, hkey, Result.andThen_ok]; exact hq _)
            rw [h7, List.getElem?_set] at hx
            rw [Nat.zero_add, Array.getElem?_modify] at he
            by_cases hjj : j = j'
            · subst hjj
              rw [if_pos rfl] at hx he
              rw [hme] at he
              have hx' : x = (kd, yd) := by
                split at hx
                · simpa using hx.symm
                · simp at hx
              simp at he
              subst hx'; subst he
              exact ⟨rk, ry, (g5 j x0 e h2 hme).2.2⟩
            · rw [if_neg hjj] at hx he
              exact g5 j' x e' hx he
    · cases hx
  · cases hx

theorem delete_ok {κ : Kap} {φ : Phi} {w : World} {s : SSt} {a : Act} (F : FRel κ φ w s a) {t t2 ty : Nat} {m k : RV} {mv kv : Value} {res : Res}
    (hx : exDelete (Env.of P) s.O t m k = some res) (hc : ∀ b ∈ res.conds, b = true) (r : RVR κ φ s.O w.heap m mv) (r2 : RVR κ φ s.O w.heap k kv) :
    Out P κ φ w s a res.val res.upd (Builtin.delete_ #[t, t2] ty #[mv, kv]) := by
  unfold exDelete at hx
  split at hx
  · rename_i kt et i kd hu
    split at hx
    · rename_i es hO
      cases hk : keyOk ((Env.of P).und kt) kd with
      | false => rw [hk] at hx; simp at hx
      | true =>
        rw [hk] at hx; simp only [cond_true, Option.some.injEq] at hx; subst hx
        cases hd : (Env.of P).und kt with
        | none => rw [hd] at hk; simp [keyOk] at hk
        | some d =>
          rw [hd] at hk
          have hks : keysOk (some d) es = true := by have := hc (keysOk ((Env.of P).und kt) es) (by simp); rw [hd] at this; exact this
          cases r2 with
          | d rk =>
          have hu' : P.underlying t = some (.map kt et) := hu
          have hd' : P.underlying kt = some d := hd
          have ho := F.objs i
          rw [hO] at ho
          obtain ⟨b, mes, clock, g1, g2, g3, ⟨g4, gn⟩, g5⟩ := ho
          cases r with
          | map hφ =>
          rename_i b2
          have : b = b2 := by rw [g1] at hφ; injection hφ
          subst this
          have hq : ∀ (o : Obj), (setObj b o).run P w = .ok () (World.row w b o) := fun o => Go.MapKept.run_setObj_map o g3
          have fin : ∀ (mes' : Array MapEntry), SzOk mes' (mdel kd es).length → (∀ (j : Nat) (x : DV × DV) (e : MapEntry), (mdel kd es)[j]? = some x → mes'[j]? = some e → DR κ w.heap x.1 e.key ∧ DR κ w.heap x.2 e.val ∧ e.born < clock) →
              (Builtin.delete_ #[t, t2] ty #[.map (some b), kv]).run P w = .ok (.tuple #[]) (World.row w b (.map mes' clock)) → Out P κ φ w s a (.d (.tup [])) [(i, .map (mdel kd es))] (Builtin.delete_ #[t, t2] ty #[.map (some b), kv]) := by
            intro mes' h1 h2 h3
            obtain ⟨q1, q2, q3⟩ := map_write F (i := i) (es' := mdel kd es) g1 g2 g3 h1 h2
            exact ⟨_, _, κ, φ, h3, q1, .d (.tup rfl (by simp)), q3, q2.kp⟩
          have hrun : ∀ (o : Option (Nat × Value)) (ob : Obj), Instr.findNow d kv mes.toList 0 = some o → ob = (match o with
              | some (i, _) => .map (mes.eraseIdxIfInBounds i) clock
              | none => .map mes clock) → (Builtin.delete_ #[t, t2] ty #[.map (some b), kv]).run P w = .ok (.tuple #[]) (World.row w b ob) := by
            intro o ob h hob
            subst hob
            have e0 : (#[t, t2] : Array TypeId)[0]? = some t := rfl
            have e1 : (#[Value.map (some b), kv] : Array Value)[0]? = some (.map (some b)) := rfl
            have e2 : (#[Value.map (some b), kv] : Array Value)[1]? = some kv := rfl
            simp only [Builtin.delete_, e0, e1, e2, Sem.run_bind, run_underlying hu', Result.andThen_ok, Go.MapKept.run_getObj_map g3, run_checkKey hd' (key_val hk rk), run_findKey hd' h]
            cases o with
            | none => simp only [Sem.run_bind, hq, Result.andThen_ok, Sem.run_pure]
            | some p => simp only [Sem.run_bind, hq, Result.andThen_ok, Sem.run_pure]
          rcases find_spec hk rk es mes.toList 0 (by simpa using g4) hks (fun j x e hx he => ⟨(g5 j x e hx (by simpa using he)).1, (g5 j x e hx (by simpa using he)).2.1⟩) with ⟨h1, _, _, _, h5⟩ | ⟨j, x0, e, h1, h2, h3, h4, _, _, _, h8⟩
          · exact fin mes ⟨by rw [h5]; exact g4, gn⟩ (by rw [h5]; exact g5) (hrun none _ h1 rfl)
          · have hj : j < mes.size := by have := (List.getElem?_eq_some_iff.1 h3).1; simpa using this
            refine fin (mes.eraseIdxIfInBounds (0 + j)) ?_ (fun j' x e' hx he => ?_) (hrun _ _ h1 rfl)
            · refine ⟨?_, nodup_erase gn⟩
              rw [h8, Nat.zero_add]; simp [Array.eraseIdxIfInBounds, List.length_eraseIdx, g4, show j < es.length by omega]
            · rw [h8, List.getElem?_eraseIdx] at hx
              have he2 : (mes.toList.eraseIdx j)[j']? = some e' := by
                rw [Nat.zero_add] at he
                rw [← he, ← Array.getElem?_toList]
                simp
              rw [List.getElem?_eraseIdx] at he2
              split at hx <;> rename_i hlt
              · rw [if_pos hlt] at he2
                exact g5 j' x e' hx (by simpa using he2)
              · rw [if_neg hlt] at he2
                exact g5 (j' + 1) x e' hx (by simpa using he2)
    · cases hx
  · cases hx


def clearAt (E : Env) (O : Tab) (e i sz off len : Nat) : Option Res :=
  match O i, E.zero e, E.size e with
  | some (.arr ty sz' els), some z, some zz => bif Nat.beq sz' sz && Nat.beq zz sz && Nat.beq z.cells.length sz && allScal z.cells then
      some { val := .d (.tup []), upd := [(i, .arr ty sz (els.take off ++ List.replicate len z ++ els.drop (off + len)))], conds := [decide (off + len ≤ els.length)] }
    else none
  | _, _, _ => none
def exClear (E : Env) (O : Tab) (t : Nat) (x : RV) : Option Res :=
  match E.und t, x with
  | some (.slice e), .own i sz => match O i with
    | some (.arr _ _ els) => clearAt E O e i sz 0 els.length
    | _ => none
  | some (.slice e), .sub i sz off len => clearAt E O e i sz off len
  | _, _ => none

theorem size_zc (z : Array Value) (n : Nat) : (Builtin.zeroCells z n).size = n * z.size := by simp [Builtin.zeroCells]
theorem zeroCells_get (z : Array Value) (n j : Nat) (hj : j < n * z.size) : (Builtin.zeroCells z n)[j]? = z[j % z.size]? := by
  have hz : 0 < z.size := by
    rcases Nat.eq_zero_or_pos z.size with h | h
    · rw [h] at hj; simp at hj
    · exact h
  have : j % z.size < z.size := Nat.mod_lt _ hz
  simp [Builtin.zeroCells, hj, this]

theorem EL.clear {κ : Kap} {h : Heap} {c : Array Value} {sz off len : Nat} {els : List DV} {z : DV} {zv : Array Value} (e : EL κ h c 0 sz els) (hl : off + len ≤ els.length)
    (hz : z.cells.length = sz ∧ ∀ y ∈ z.cells, y.scal = true) (hzv : zv.size = sz) (hr : ∀ (j : Nat) (y : DV) (v : Value), z.cells[j]? = some y → zv[j]? = some v → DR κ h y v) :
    EL κ h (splA c (off * sz) (Builtin.zeroCells zv len).toList) 0 sz (els.take off ++ List.replicate len z ++ els.drop (off + len)) := by
  obtain ⟨e1, e2, e3⟩ := e
  have hzl : (Builtin.zeroCells zv len).toList.length = len * sz := by simp [size_zc, hzv]
  have hle := Nat.mul_le_mul_right sz hl
  rw [Nat.add_mul] at hle
  have hb : off * sz + (Builtin.zeroCells zv len).toList.length ≤ c.size := by rw [hzl]; omega
  have hlen : (els.take off ++ List.replicate len z ++ els.drop (off + len)).length = els.length := by simp; omega
  have getI : ∀ (i : Nat) (x : DV), (els.take off ++ List.replicate len z ++ els.drop (off + len))[i]? = some x → (off ≤ i ∧ i < off + len ∧ x = z) ∨ ((i < off ∨ off + len ≤ i) ∧ els[i]? = some x) := by
    intro i x hx
    by_cases h1 : i < off
    · rw [List.append_assoc, List.getElem?_append_left (by simp; omega), List.getElem?_take, if_pos h1] at hx
      exact .inr ⟨.inl h1, hx⟩
    · by_cases h2 : i < off + len
      · rw [List.getElem?_append_left (by simp; omega), List.getElem?_append_right (by simp; omega), List.getElem?_replicate] at hx
        split at hx
        · injection hx with hx; exact .inl ⟨by omega, h2, hx.symm⟩
        · cases hx
      · rw [List.getElem?_append_right (by simp; omega), List.getElem?_drop] at hx
        refine .inr ⟨.inr (by omega), ?_⟩
        rw [← hx]; congr 1; simp; omega
  refine ⟨fun x hx => ?_, by rw [splA_size _ _ _ hb, hlen]; simpa using e2, fun i x j y v hx hy hv => ?_⟩
  · obtain ⟨i, hi⟩ := List.mem_iff_getElem?.1 hx
    rcases getI i x hi with ⟨_, _, rfl⟩ | ⟨_, h⟩
    · exact hz
    · exact e1 x (List.mem_iff_getElem?.2 ⟨i, h⟩)
  · rw [splA_get _ _ _ hb, hzl] at hv
    simp only [Nat.zero_add] at hv
    rcases getI i x hx with ⟨h1, h2, rfl⟩ | ⟨h1, h⟩
    · have hj : j < sz := by have := (List.getElem?_eq_some_iff.1 hy).1; omega
      have q1 := Nat.mul_le_mul_right sz h1
      have q2 := Nat.mul_le_mul_right sz (show i + 1 ≤ off + len from h2)
      rw [Nat.add_mul, Nat.add_mul] at q2
      rw [if_neg (by omega), if_pos (by omega)] at hv
      have e0 : i * sz + j - off * sz = (i - off) * sz + j := by rw [Nat.sub_mul]; omega
      have e4 : (i - off) * sz + j < len * zv.size := by rw [hzv]; rw [Nat.sub_mul]; omega
      rw [e0, Array.getElem?_toList, zeroCells_get _ _ _ e4, hzv] at hv
      rw [Nat.add_comm, Nat.add_mul_mod_self_right, Nat.mod_eq_of_lt hj] at hv
      exact hr j y v hy hv
    · have hj : j < sz := by have := (e1 x (List.mem_iff_getElem?.2 ⟨i, h⟩)).1; have := (List.getElem?_eq_some_iff.1 hy).1; omega
      refine e3 i x j y v h hy ?_
      rw [Nat.zero_add]
      rcases h1 with h1 | h1
      · have q := Nat.mul_le_mul_right sz (show i + 1 ≤ off from h1)
        rw [Nat.add_mul] at q
        rw [if_pos (by omega)] at hv; exact hv
      · have q := Nat.mul_le_mul_right sz h1
        rw [Nat.add_mul] at q
        rw [if_neg (by omega), if_neg (by omega)] at hv; exact hv

theorem clearAt_ok {κ : Kap} {φ : Phi} {w : World} {s : SSt} {a : Act} (F : FRel κ φ w s a) {t e i sz off len ty : Nat} {v : Value} {res : Res} (hu : (Env.of P).und t = some (.slice e))
    (hx : clearAt (Env.of P) s.O e i sz off len = some res) (hc : ∀ b ∈ res.conds, b = true)
    (hv : (len = 0 ∧ ∃ base cap, v = .slice base 0 cap) ∨ ∃ b cap, φ i = .at b ∧ v = .slice (some ⟨b, off * sz, none⟩) len cap) :
    Out P κ φ w s a res.val res.upd (Builtin.clear_ #[t] ty #[v]) := by
  have hu' : P.underlying t = some (.slice e) := hu
  unfold clearAt at hx
  split at hx
  · rename_i ety sz' els z zz hO hz hzz
    cases hg : (Nat.beq sz' sz && Nat.beq zz sz && Nat.beq z.cells.length sz && allScal z.cells) with
    | false => rw [hg] at hx; simp at hx
    | true =>
      rw [hg] at hx; simp only [cond_true, Option.some.injEq] at hx; subst hx
      simp only [Bool.and_eq_true] at hg
      obtain ⟨⟨⟨g1, g2⟩, g3⟩, g4⟩ := hg
      have g1 := nbE g1; have g2 := nbE g2; have g3 := nbE g3; have g4 := allScal_spec g4
      subst g1; subst g2
      have hle : off + len ≤ els.length := of_decide_eq_true (hc (decide (off + len ≤ els.length)) (by simp))
      by_cases h0 : len = 0
      · have hrun : (Builtin.clear_ #[t] ty #[v]).run P w = .ok (.tuple #[]) w := by
          have : ∃ base cap, v = .slice base 0 cap := by
            rcases hv with ⟨_, h⟩ | ⟨b, cap, _, h⟩
            · exact h
            · rw [h0] at h; exact ⟨_, _, h⟩
          obtain ⟨base, cap, rfl⟩ := this
          have e0 : (#[t] : Array TypeId)[0]? = some t := rfl
          have e1 : (#[Value.slice base 0 cap] : Array Value)[0]? = some (.slice base 0 cap) := rfl
          simp only [Builtin.clear_, e0, e1, Sem.run_bind, run_underlying hu', Result.andThen_ok]
          cases base <;> rfl
        have hel : els.take off ++ List.replicate len z ++ els.drop (off + len) = els := by subst h0; simp
        have hset : setT s.O i (some (.arr ety zz els)) = s.O := by
          funext j
          by_cases ej : j = i
          · subst ej; rw [setT_same, hO]
          · rw [setT_ne _ _ ej]
        rw [hel]
        refine ⟨_, w, κ, φ, hrun, ?_, ?_, Fr.refl _ _, ?_⟩
        · rw [updO_one, hset]; exact F
        · exact .d (.tup rfl (by simp))
        · rw [updO_one, hset]; exact Kp.refl _ _
      · rcases hv with ⟨h, _⟩ | ⟨b, cap, hφ, rfl⟩
        · exact absurd h h0
        · have ho := F.objs i
          rw [hO] at ho
          rcases ho with ⟨h1, _⟩ | ⟨b', c, fz, h1, h2, h3, h4, h5⟩
          · rw [h1] at hφ; cases hφ
          · have hbb : b' = b := by rw [h1] at hφ; injection hφ
            subst hbb
            obtain ⟨zv, hz1, hz2⟩ := run_zeroValue hz w
            obtain ⟨d1, d2⟩ := (ofVal_DR (κ := κ) (h := w.heap) hz2).cells
            have hzs : zv.cells.size = zz := by rw [d1, g3]
            have hzl : (Builtin.zeroCells zv.cells len).toList.length = len * zz := by simp [size_zc, hzs]
            have hmul := Nat.mul_le_mul_right zz hle
            rw [Nat.add_mul] at hmul
            have h52 := h5.2.1
            have hfit : off * zz + 0 + (Builtin.zeroCells zv.cells len).toList.length ≤ c.size := by rw [hzl]; omega
            have hone : ∀ x ∈ (Builtin.zeroCells zv.cells len).toList, x.oneCell = true := by
              intro x hx
              obtain ⟨j, hj⟩ := List.mem_iff_getElem?.1 hx
              have hjl := (List.getElem?_eq_some_iff.1 hj).1
              rw [Array.getElem?_toList, zeroCells_get _ _ _ (by rw [hzs]; omega)] at hj
              have hjm := (Array.getElem?_eq_some_iff.1 hj).1
              have hy : z.cells[j % zv.cells.size]? = some z.cells[j % zv.cells.size] := by simp [show j % zv.cells.size < z.cells.length by omega]
              exact (d2 _ _ _ hy hj).oneCell (g4 _ (by simp))
            have hst := run_storeCells_any (P := P) b' (off * zz) ety fz (Builtin.zeroCells zv.cells len).toList 0 c w h3 h4 hfit hone
            simp only [Nat.add_zero] at hst
            have hrun : (Builtin.clear_ #[t] ty #[.slice (some ⟨b', off * zz, none⟩) len cap]).run P w = .ok (.tuple #[]) (World.row w b' (.cells (splA c (off * zz) (Builtin.zeroCells zv.cells len).toList) ety fz)) := by
              have e0 : (#[t] : Array TypeId)[0]? = some t := rfl
              have e1 : (#[Value.slice (some ⟨b', off * zz, none⟩) len cap] : Array Value)[0]? = some (.slice (some ⟨b', off * zz, none⟩) len cap) := rfl
              simp only [Builtin.clear_, e0, e1, Sem.run_bind, run_underlying hu', Result.andThen_ok]
              cases len with
              | zero => exact absurd rfl h0
              | succ n => simp only [hz1, Result.andThen_ok, hst, Sem.run_pure]
            have hsz : (splA c (off * zz) (Builtin.zeroCells zv.cells len).toList).size = c.size := splA_size _ _ _ (by rw [hzl]; omega)
            have hel := EL.clear h5 hle ⟨g3, g4⟩ hzs d2
            obtain ⟨q1, q2, q3⟩ := F.write (i := i) (p := .arr ety zz (els.take off ++ List.replicate len z ++ els.drop (off + len))) (o := .cells (splA c (off * zz) (Builtin.zeroCells zv.cells len).toList) ety fz) h2 h1
              (fun c' ty2 fz2 hh => by rw [h3] at hh; injection hh with hh; injection hh with e1 e2 e3; subst e1; subst e2; exact ⟨_, _, rfl, hsz⟩)
              (fun n hn => by rw [hO]; simp [PObj.len?] at hn ⊢; omega)
              (fun M => .inr ⟨b', _, fz, h1, h2, row_heap h3, by rw [hsz]; exact h4, hel.mono M.imm⟩)
            refine ⟨_, _, κ, φ, hrun, q1, .d (.tup rfl (by simp)), q3, q2.kp⟩
  · cases hx

theorem clear_ok {κ : Kap} {φ : Phi} {w : World} {s : SSt} {a : Act} (F : FRel κ φ w s a) {t ty : Nat} {x : RV} {v : Value} {res : Res}
    (hx : exClear (Env.of P) s.O t x = some res) (hc : ∀ b ∈ res.conds, b = true) (r : RVR κ φ s.O w.heap x v) : Out P κ φ w s a res.val res.upd (Builtin.clear_ #[t] ty #[v]) := by
  unfold exClear at hx
  split at hx
  · rename_i e i sz hu
    split at hx
    · rename_i sz' els hO
      refine clearAt_ok F hu hx hc ?_
      cases r with
      | own hφ hb hcap hlc hlen =>
        have := hlen els.length (by rw [hO]; rfl)
        subst this
        exact .inr ⟨_, _, hφ, by rw [Nat.zero_mul]⟩
      | ownNil hφ =>
        have ho := F.objs i
        rw [hO] at ho
        rcases ho with ⟨_, h2⟩ | ⟨b, c, fz, h1, _⟩
        · subst h2; exact .inl ⟨rfl, _, _, rfl⟩
        · rw [h1] at hφ; cases hφ
    · cases hx
  · rename_i e i sz off len hu
    refine clearAt_ok F hu hx hc ?_
    cases r with
    | sub hφ hb hcap hlc => exact .inr ⟨_, _, hφ, rfl⟩
    | sub0 hφ => exact .inl ⟨rfl, _, _, rfl⟩
  · cases hx

end Go.Am

/-
  The abstract machine: slices by reference: arrays whose cells may hold whatever.
-/
namespace Go.Am
set_option linter.unusedSectionVars false
variable {P : Program} [Gl]

def cellsAt (O : Tab) (i : Nat) : Option (List RV) :=
  match O i with
  | some (.box _ cs) => some cs
  | some (.rar _ cs) => some cs
  | _ => none

def setC (O : Tab) (i : Nat) (cs : List RV) : PObj :=
  match O i with
  | some (.box ty _) => .box ty cs
  | some (.rar ty _) => .rar ty cs
  | _ => .gone

/-- An object of cells, in memory. -/
theorem cells_obj {κ : Kap} {φ : Phi} {w : World} {s : SSt} {a : Act} (F : FRel κ φ w s a) {i : Nat} {cs : List RV} (h : cellsAt s.O i = some cs) :
    ∃ b c ty fz, φ i = .at b ∧ κ b = .own i ∧ w.heap[b]? = some (.cells c ty fz) ∧ FzOk fz c.size ∧ RL κ φ s.O w.heap c 0 cs ∧ ((∃ t, s.O i = some (.box t cs)) → c.size = cs.length) := by
  unfold cellsAt at h
  have ho := F.objs i
  split at h
  · rename_i t cs' he
    injection h with h; subst h
    rw [he] at ho
    obtain ⟨b, c, h1, h2, h3, h4, h5, h6⟩ := ho
    refine ⟨b, c, t, (0, 0), h1, h2, h3, fzOk00 _, ⟨by omega, fun j x v hx hv => ⟨h6 j x v hx (by simpa using hv), h5 v ?_⟩⟩, fun _ => h4⟩
    exact Array.mem_iff_getElem?.2 ⟨_, hv⟩
  · rename_i t cs' he
    injection h with h; subst h
    rw [he] at ho
    obtain ⟨b, c, fz, h1, h2, h3, h4, h5⟩ := ho
    exact ⟨b, c, t, fz, h1, h2, h3, h4.1, h5, fun ⟨t', e⟩ => by rw [he] at e; cases e⟩
  · simp at h

theorem RL.splice {κ κ' : Kap} {φ φ' : Phi} {O O' : Tab} {h h' : Heap} (M : Mono κ φ O h κ' φ' O' h') {c : Array Value} {cs ys : List RV} {o : Nat} {vs : List Value} (r : RL κ φ O h c 0 cs)
    (ho : o + ys.length ≤ cs.length) (hl : vs.length = ys.length) (hr : ∀ (j : Nat) (x : RV) (v : Value), ys[j]? = some x → vs[j]? = some v → RVR κ φ O h x v ∧ v.oneCell = true) :
    RL κ' φ' O' h' (splA c o vs) 0 (splice cs o ys) := by
  have h1 := r.1
  refine ⟨by rw [splice_length _ _ _ ho, splA_size _ _ _ (by omega)]; exact h1, fun j x v hx hv => ?_⟩
  rw [splice_get _ _ _ ho] at hx
  rw [Nat.zero_add, splA_get _ _ _ (by omega)] at hv
  have key : RVR κ φ O h x v ∧ v.oneCell = true := by
    by_cases k1 : j < o
    · rw [if_pos k1] at hx hv; exact r.2 j x v hx (by simpa using hv)
    · rw [if_neg k1] at hx hv
      by_cases k2 : j < o + ys.length
      · rw [if_pos (by omega)] at hx hv; exact hr _ x v hx hv
      · rw [if_neg (by omega)] at hx hv; exact r.2 j x v hx (by simpa using hv)
  exact ⟨key.1.mono M, key.2⟩

/-- Some cells of an object are written over. -/
theorem cells_store {κ : Kap} {φ : Phi} {w : World} {s : SSt} {a : Act} (F : FRel κ φ w s a) {i b : Nat} {cs ys : List RV} (h : cellsAt s.O i = some cs) (hφ : φ i = .at b) {o : Nat} {vs : List Value}
    (ho : o + ys.length ≤ cs.length) (hl : vs.length = ys.length) (hr : ∀ (j : Nat) (x : RV) (v : Value), ys[j]? = some x → vs[j]? = some v → RVR κ φ s.O w.heap x v ∧ v.oneCell = true) (hone : ∀ v ∈ vs, v.oneCell = true) :
    ∃ c ty fz, w.heap[b]? = some (.cells c ty fz) ∧ FzOk fz c.size ∧ o + vs.length ≤ c.size ∧
      FRel κ φ (World.row w b (.cells (splA c o vs) ty fz)) { s with O := setT s.O i (some (setC s.O i (splice cs o ys))) } a ∧
      Mono κ φ s.O w.heap κ φ (setT s.O i (some (setC s.O i (splice cs o ys)))) (World.row w b (.cells (splA c o vs) ty fz)).heap ∧ Fr κ w κ (World.row w b (.cells (splA c o vs) ty fz)) := by
  obtain ⟨b', c, ty, fz, h1, h2, h3, h4, h5, h6⟩ := cells_obj F h
  rw [h1] at hφ; injection hφ with hφ; subst hφ
  have hcl := h5.1
  have hsize : (splA c o vs).size = c.size := splA_size _ _ _ (by omega)
  refine ⟨c, ty, fz, h3, h4, by omega, F.write h2 h1 (fun c0 ty0 fz0 hc0 => by rw [h3] at hc0; injection hc0 with hc0; injection hc0 with e1 e2 e3; subst e1; subst e2; exact ⟨_, _, rfl, hsize⟩) (fun n hn => ?_) (fun M => ?_)⟩
  · unfold cellsAt at h
    unfold setC at hn
    split at h
    · rename_i t cs' he; rw [he] at hn; simp [PObj.len?] at hn
    · rename_i t cs' he; rw [he] at hn ⊢; injection h with h; subst h; simp only [PObj.len?, splice_length _ _ _ ho] at hn ⊢; exact hn
    · simp at h
  · have hs := RL.splice M h5 ho hl hr
    have ho' := F.objs i
    unfold cellsAt at h
    generalize hob : setC s.O i (splice cs o ys) = ob at *
    unfold setC at hob
    split at h
    · rename_i t cs' he
      injection h with h; subst h
      rw [he] at hob ho'; simp only at hob; subst hob
      obtain ⟨b2, c2, g1, g2, g3, g4, g5, g6⟩ := ho'
      rw [h1] at g1; injection g1 with g1; subst g1
      rw [h3] at g3; injection g3 with g3; injection g3 with e1 e2 e3; subst e1; subst e2; subst e3
      refine ⟨b', _, h1, h2, row_heap h3, by rw [hsize, splice_length _ _ _ ho]; exact g4, fun v hv => ?_, fun j x v hx hv => (hs.2 j x v hx (by simpa using hv)).1⟩
      rcases splA_mem hv with hv | hv
      · exact g5 v hv
      · exact hone v hv
    · rename_i t cs' he
      injection h with h; subst h
      rw [he] at hob ho'; simp only at hob; subst hob
      obtain ⟨b2, c2, fz2, g1, g2, g3, g4, g5⟩ := ho'
      rw [h1] at g1; injection g1 with g1; subst g1
      rw [h3] at g3; injection g3 with g3; injection g3 with e1 e2 e3; subst e1; subst e2; subst e3
      exact ⟨b', _, _, h1, h2, row_heap h3, by rw [hsize]; exact g4, hs⟩
    · simp at h

/-- The cells of a slice. -/
theorem sl_cells {κ : Kap} {φ : Phi} {w : World} {s : SSt} {a : Act} (F : FRel κ φ w s a) {i sz o len : Nat} {cap : Option Nat} {v : Value} {cs : List RV} (h : cellsAt s.O i = some cs)
    (r : RVR κ φ s.O w.heap (.sl i sz o len cap) v) : ∃ b o' capv c ty fz, v = .slice (some ⟨b, o', none⟩) len capv ∧ φ i = .at b ∧ κ b = .own i ∧ w.heap[b]? = some (.cells c ty fz) ∧ FzOk fz c.size ∧ RL κ φ s.O w.heap c 0 cs ∧
      (o' = o ∨ capv = 0) ∧ o' + capv * sz ≤ c.size ∧ len ≤ capv ∧ (∀ k, cap = some k → capv = k) ∧ (cap = none → ∀ n, PObj.len? (s.O i) = some n → n ≤ o + capv * sz) := by
  obtain ⟨b', c, ty, fz, h1, h2, h3, h4, h5, h6⟩ := cells_obj F h
  cases r with
  | sl hφ hb ho hs hl hc hn =>
    rw [h1] at hφ; injection hφ with hφ; subst hφ
    rw [h3] at hb; injection hb with hb; injection hb with e1 e2 e3; subst e1
    exact ⟨b', _, _, c, ty, fz, rfl, h1, h2, h3, h4, h5, ho, hs, hl, hc, hn⟩

theorem RL.part {κ : Kap} {φ : Phi} {O : Tab} {h : Heap} {c : Array Value} {cs : List RV} (r : RL κ φ O h c 0 cs) {o n : Nat} (ho : o + n ≤ cs.length) :
    RL κ φ O h (c.extract o (o + n)) 0 ((cs.drop o).take n) ∧ (c.extract o (o + n)).size = n ∧ ((cs.drop o).take n).length = n := by
  have h1 := r.1
  have hl : ((cs.drop o).take n).length = n := by simp; omega
  have hsz : (c.extract o (o + n)).size = n := by simp; omega
  refine ⟨⟨by omega, fun j x v hx hv => ?_⟩, hsz, hl⟩
  rw [List.getElem?_take] at hx
  split at hx
  · rw [List.getElem?_drop] at hx
    rw [Nat.zero_add, Array.getElem?_extract] at hv
    split at hv
    · exact r.2 (o + j) x v hx (by simpa using hv)
    · simp at hv
  · simp at hx

def u8r (s : List UInt8) : List RV := s.map fun b => .d (.int .u8 b.toNat)

/-- What stands in an append's or a copy's second place: how many elements, and their cells. -/
def srcCells (O : Tab) (z : Nat) (x : RV) : Option (Nat × List RV) :=
  match x with
  | .d (.lst 0 [] true) => some (0, [])
  | .d (.str s) => bif Nat.beq z 1 then some (s.length, u8r s) else none
  | .sl i sz o len _ => match cellsAt O i with
    | some cs => bif Nat.beq sz z && Nat.ble (o + len * sz) cs.length then some (len, (cs.drop o).take (len * sz)) else bif Nat.beq len 0 then some (0, []) else none
    | none => none
  | _ => none

theorem u8r_get (s : List UInt8) (i : Nat) (x : RV) (h : (u8r s)[i]? = some x) : ∃ b, s[i]? = some b ∧ x = .d (.int .u8 b.toNat) := by
  simp only [u8r, List.getElem?_map] at h
  cases e : s[i]? with
  | none => rw [e] at h; simp at h
  | some b => rw [e] at h; simp at h; exact ⟨b, rfl, h.symm⟩

theorem RL.nil {κ : Kap} {φ : Phi} {O : Tab} {h : Heap} : RL κ φ O h #[] 0 [] := ⟨by simp, by simp⟩

theorem srcCells_ok {κ : Kap} {φ : Phi} {w : World} {s : SSt} {a : Act} (F : FRel κ φ w s a) {x : RV} {v : Value} {z m : Nat} {xs : List RV}
    (hx : srcCells s.O z x = some (m, xs)) (r : RVR κ φ s.O w.heap x v) :
    xs.length = m * z ∧ (∀ w' : World, w'.heap = w.heap → (Builtin.lenOf v).run P w' = .ok m w') ∧
    ∀ k, k ≤ m → ∃ X, (∀ w' : World, w'.heap = w.heap → (Builtin.firstCells z k v).run P w' = .ok X w') ∧ X.size = k * z ∧ RL κ φ s.O w.heap X 0 (xs.take (k * z)) := by
  unfold srcCells at hx
  split at hx
  · injection hx with hx; injection hx with e1 e2; subst e1; subst e2
    cases r with
    | d hr =>
      cases hr with
      | lst0 hf =>
        refine ⟨by simp, fun w' _ => rfl, fun k hk => ⟨#[], fun w' _ => ?_, by have : k = 0 := (by omega); subst this; simp, by simpa using RL.nil⟩⟩
        have := (hf rfl).2 rfl; subst this; rfl
      | lst _ _ hf _ _ _ _ => have := (hf rfl).2; omega
  · rename_i str
    cases hz : Nat.beq z 1 with
    | false => rw [hz] at hx; simp at hx
    | true =>
      have := nbE hz; subst this
      rw [hz] at hx; simp only [cond_true, Option.some.injEq, Prod.mk.injEq] at hx
      obtain ⟨rfl, rfl⟩ := hx
      cases r with
      | d hr =>
        cases hr
        refine ⟨by simp [u8r], fun w' _ => by simp [Builtin.lenOf, ByteArray.size], fun k hk => ⟨((str.take k).toArray.map fun b => Value.int .u8 b.toNat), fun w' _ => ?_, by simp; omega, ⟨by simp [u8r], fun j x v hx hv => ?_⟩⟩⟩
        · simp only [Builtin.firstCells]
          have : ((⟨str.toArray⟩ : ByteArray).extract 0 k).data = (str.take k).toArray := by
            simp [ByteArray.data_extract]
          rw [this]; rfl
        · rw [Nat.mul_one, List.getElem?_take] at hx
          split at hx
          · obtain ⟨b, hb, rfl⟩ := u8r_get str j x hx
            rw [Nat.zero_add] at hv
            simp only [Array.getElem?_map, List.getElem?_toArray, List.getElem?_take] at hv
            rw [if_pos (by assumption), hb] at hv
            simp at hv; subst hv
            exact ⟨.d (.int _ _), rfl⟩
          · simp at hx
  · rename_i i sz o len cap
    cases hc : cellsAt s.O i with
    | none => rw [hc] at hx; simp at hx
    | some cs =>
      rw [hc] at hx; simp only at hx
      obtain ⟨b, o', capv, c, ty, fz, rfl, h1, h2, h3, h4, h5, h6, h7, h8, h9, h10⟩ := sl_cells F hc r
      cases hg : (Nat.beq sz z && Nat.ble (o + len * sz) cs.length) with
      | true =>
        rw [hg] at hx; simp only [cond_true, Option.some.injEq, Prod.mk.injEq] at hx
        obtain ⟨rfl, rfl⟩ := hx
        simp only [Bool.and_eq_true] at hg
        have := nbE hg.1; subst this
        have g2 := Nat.le_of_ble_eq_true hg.2
        refine ⟨by simp; omega, fun w' _ => rfl, fun k hk => ?_⟩
        have hkz := Nat.mul_le_mul_right sz hk
        have hcl := h5.1
        rcases h6 with rfl | h6
        · obtain ⟨p1, p2, p3⟩ := h5.part (o := o') (n := k * sz) (by omega)
          refine ⟨c.extract o' (o' + k * sz), fun w' hw => ?_, p2, ?_⟩
          · simp only [Builtin.firstCells]
            exact run_loadCells_at (by rw [hw]; exact h3) (by omega)
          · rw [List.take_take, Nat.min_eq_left hkz]; exact p1
        · have : k = 0 := by omega
          subst this
          refine ⟨#[], fun w' _ => ?_, by simp, by simpa using RL.nil⟩
          simp only [Builtin.firstCells, Nat.zero_mul, loadCells, loadCellsFrom]; rfl
      | false =>
        rw [hg] at hx; simp only [cond_false] at hx
        cases hl : Nat.beq len 0 with
        | false => rw [hl] at hx; simp at hx
        | true =>
          have := nbE hl; subst this
          rw [hl] at hx; simp only [cond_true, Option.some.injEq, Prod.mk.injEq] at hx
          obtain ⟨rfl, rfl⟩ := hx
          refine ⟨by simp, fun w' _ => rfl, fun k hk => ⟨#[], fun w' _ => ?_, by have : k = 0 := (by omega); subst this; simp, by simpa using RL.nil⟩⟩
          have : k = 0 := by omega
          subst this
          simp only [Builtin.firstCells, Nat.zero_mul, loadCells, loadCellsFrom]; rfl
  · simp at hx

def exLoadR (E : Env) (O : Tab) (t : Nat) (a : RV) : Option Res :=
  match E.size t, a with
  | some z, .ptr i off => match cellsAt O i with
    | some cs => bif Nat.ble (off + z) cs.length then
        bif E.isAgg t then some { val := mkAgg ((cs.drop off).take z) } else bif Nat.beq z 1 then some { val := cs.getD off .bot } else none
      else none
    | _ => none
  | _, _ => none

def exStoreR (E : Env) (O : Tab) (t : Nat) (a v : RV) : Option Res :=
  match E.size t, a with
  | some z, .ptr i off => match cellsAt O i with
    | some cs => bif okPart v && Nat.beq v.cells.length z && Nat.ble (off + z) cs.length then some { val := .bot, upd := [(i, setC O i (splice cs off v.cells))] } else none
    | _ => none
  | _, _ => none

def exAllocR (E : Env) (O : Tab) (sl t : Nat) (v : RV) : Option Res :=
  match O sl, E.size t with
  | none, some z => bif okPart v && Nat.beq v.cells.length z then some { val := .ptr sl 0, upd := [(sl, .box t v.cells)] } else none
  | _, _ => none

def partCells (sz : Nat) : Nat → List (Nat × RV) → Option (List RV)
  | _, [] => some []
  | k, (i, x) :: r => bif Nat.beq i k && Nat.beq x.cells.length sz && okPart x then
      match partCells sz (k + 1) r with
      | some l => some (x.cells ++ l)
      | none => none
    else none

def exBuildSliceR (E : Env) (O : Tab) (sl t len : Nat) (parts : List (Nat × RV)) : Option Res :=
  match O sl, E.und t with
  | none, some (.slice e) => match E.size e, E.zero e with
    | some sz, some _ => bif Nat.beq parts.length len && Nat.ble (len * sz) 1000000 then
        match partCells sz 0 parts with
        | some cs => some { val := .sl sl sz 0 len (some len), upd := [(sl, .rar e cs)] }
        | none => none
      else none
    | _, _ => none
  | _, _ => none

theorem load_okR {κ : Kap} {φ : Phi} {w : World} {s : SSt} {a : Act} (F : FRel κ φ w s a) {t : Nat} {x : RV} {v : Value} {res : Res}
    (hx : exLoadR (Env.of P) s.O t x = some res) (r : RVR κ φ s.O w.heap x v) : Out P κ φ w s a res.val res.upd (Instr.loadAt t v) := by
  unfold exLoadR at hx
  split at hx
  · rename_i z i off hz
    split at hx
    · rename_i cs hO
      cases hg : Nat.ble (off + z) cs.length with
      | false => rw [hg] at hx; simp at hx
      | true =>
        rw [hg] at hx; simp only [cond_true] at hx
        have g1 := Nat.le_of_ble_eq_true hg
        obtain ⟨b, c, ty', fz, h1, h2, h3, h4, h5, _⟩ := cells_obj F hO
        cases r with
        | ptr hφ =>
        rw [h1] at hφ; injection hφ with hφ; subst hφ
        have hcl := h5.1
        cases ha : (Env.of P).isAgg t with
        | true =>
          rw [ha] at hx; simp only [cond_true, Option.some.injEq] at hx; subst hx
          obtain ⟨p1, p2, p3⟩ := h5.part (o := off) (n := z) g1
          refine Out.pure F (run_loadAt hz h3 (by omega) (fun e => by rw [ha] at e; cases e)) ?_
          rw [ha]; simp only [if_true]
          refine mkAgg_ok (by omega) (fun u hu => ?_) (fun j x u hx hu => (p1.2 j x u hx (by simpa using hu)).1)
          obtain ⟨j, hj⟩ := Array.mem_iff_getElem?.1 hu
          have hlt := (Array.getElem?_eq_some_iff.1 hj).1
          have hlt2 : j < ((cs.drop off).take z).length := by omega
          exact (p1.2 j _ u (List.getElem?_eq_getElem hlt2) (by simpa using hj)).2
        | false =>
          rw [ha] at hx; simp only [cond_false] at hx
          cases hz1 : Nat.beq z 1 with
          | false => rw [hz1] at hx; simp at hx
          | true =>
            have := nbE hz1; subst this
            rw [hz1] at hx; simp only [cond_true, Option.some.injEq] at hx; subst hx
            refine Out.pure F (run_loadAt hz h3 (by omega) (fun _ => rfl)) ?_
            rw [ha]; simp only [Bool.false_eq_true, if_false]
            have hlt : off < cs.length := by omega
            have hlt2 : off < c.size := by omega
            have e1 : cs[off]? = some (cs.getD off .bot) := by simp [List.getD, hlt]
            have e2 : c[off]? = some (c.getD off undef) := by simp [Array.getD, hlt2]
            exact (h5.2 off _ _ e1 (by simpa using e2)).1
    · simp at hx
  · simp at hx

theorem store_okR {κ : Kap} {φ : Phi} {w : World} {s : SSt} {a : Act} (F : FRel κ φ w s a) {t : Nat} {x y : RV} {v u : Value} {res : Res}
    (hx : exStoreR (Env.of P) s.O t x y = some res) (r : RVR κ φ s.O w.heap x v) (r2 : RVR κ φ s.O w.heap y u) : OutU P κ φ w s a res.upd (Instr.storeAt t v u) := by
  unfold exStoreR at hx
  split at hx
  · rename_i z i off hz
    split at hx
    · rename_i cs hc
      cases hg : (okPart y && Nat.beq y.cells.length z && Nat.ble (off + z) cs.length) with
      | false => rw [hg] at hx; simp at hx
      | true =>
        rw [hg] at hx; simp only [cond_true, Option.some.injEq] at hx; subst hx
        simp only [Bool.and_eq_true] at hg
        obtain ⟨⟨g1, g2⟩, g3⟩ := hg
        have g2 := nbE g2
        have g3 := Nat.le_of_ble_eq_true g3
        cases r with
        | ptr hφ =>
        obtain ⟨c1, c2, c3⟩ := rv_cells r2 g1
        obtain ⟨c, ty', fz, e1, e2, e3, e4, e5, e6⟩ := cells_store F hc hφ (o := off) (vs := u.cells.toList) (ys := y.cells) (by omega) (by simpa using c1) (fun j x' v' hx' hv' => ⟨c3 j x' v' hx' (by simpa using hv'), c2 v' (by
          have := List.mem_iff_getElem?.2 ⟨j, hv'⟩; simpa using this)⟩) (fun v' hv' => c2 v' (by simpa using hv'))
        have hvl : u.cells.toList.length = z := by simp; omega
        exact ⟨_, κ, φ, run_storeAt hz e1 e2 (by omega) (by omega) c2, e4, e6, e5.kp⟩
    · simp at hx
  · simp at hx

theorem alloc_okR {κ : Kap} {φ : Phi} {w : World} {s : SSt} {a : Act} (F : FRel κ φ w s a) {sl t : Nat} {x : RV} {v : Value} {res : Res}
    (hx : exAllocR (Env.of P) s.O sl t x = some res) (r : RVR κ φ s.O w.heap x v) : Out P κ φ w s a res.val res.upd (do pure (.pointer (some (← newVar t v)))) := by
  unfold exAllocR at hx
  split at hx
  · rename_i z hO hz
    cases hg : (okPart x && Nat.beq x.cells.length z) with
    | false => rw [hg] at hx; simp at hx
    | true =>
      rw [hg] at hx; simp only [cond_true, Option.some.injEq] at hx; subst hx
      simp only [Bool.and_eq_true] at hg
      obtain ⟨c1, c2, c3⟩ := rv_cells r hg.1
      have hrun : (do pure (Value.pointer (some (← newVar t v))) : Sem Value).run P w = .ok (.pointer (some ⟨w.heap.size, 0, none⟩)) { w with heap := w.heap.push (.cells v.cells t (0, 0)) } := by
        simp [run_newVar]
      obtain ⟨q1, q2, q3⟩ := F.alloc (i := sl) (p := .box t x.cells) (o := .cells v.cells t (0, 0)) (w' := { w with heap := w.heap.push (.cells v.cells t (0, 0)) }) rfl hO
        (fun M => ⟨_, _, setP_same _ _ _, setK_same _ _ _, heap_push_eq _ _, c1, c2, fun j x' v' hx' hv' => (c3 j x' v' hx' hv').mono M⟩)
      exact ⟨_, _, _, _, hrun, q1, .ptr (setP_same _ _ _), q3, q2.kp⟩
  · simp at hx

theorem partCells_ok {κ : Kap} {φ : Phi} {O : Tab} {h : Heap} (sz : Nat) : ∀ (k : Nat) (ps : List (Nat × RV)) (cs : List RV) (pv : List (Nat × Value)), partCells sz k ps = some cs → pv.length = ps.length →
    (∀ (i : Nat) (p : Nat × RV) (q : Nat × Value), ps[i]? = some p → pv[i]? = some q → p.1 = q.1 ∧ RVR κ φ O h p.2 q.2) →
    cs.length = ps.length * sz ∧ (∀ (i : Nat) (q : Nat × Value), pv[i]? = some q → q.1 = k + i ∧ q.2.cells.size = sz) ∧ (pv.flatMap fun q => q.2.cells.toList).length = cs.length ∧
    (∀ (j : Nat) (x : RV) (v : Value), cs[j]? = some x → (pv.flatMap fun q => q.2.cells.toList)[j]? = some v → RVR κ φ O h x v ∧ v.oneCell = true)
  | k, [], cs, pv, hp, hl, _ => by
    simp [partCells] at hp; subst hp
    have : pv = [] := List.eq_nil_of_length_eq_zero (by simpa using hl)
    subst this; simp
  | k, (i, x) :: ps, cs, [], hp, hl, _ => by simp at hl
  | k, (i, x) :: ps, cs, (i', v) :: pv, hp, hl, hr => by
    simp only [partCells] at hp
    cases hg : (Nat.beq i k && Nat.beq x.cells.length sz && okPart x) with
    | false => rw [hg] at hp; simp at hp
    | true =>
      rw [hg] at hp; simp only [cond_true] at hp
      simp only [Bool.and_eq_true] at hg
      obtain ⟨⟨g1, g2⟩, g3⟩ := hg
      have g1 := nbE g1
      have g2 := nbE g2
      cases hq : partCells sz (k + 1) ps with
      | none => rw [hq] at hp; simp at hp
      | some l =>
        rw [hq] at hp; simp only [Option.some.injEq] at hp; subst hp
        obtain ⟨e1, e2⟩ := hr 0 (i, x) (i', v) rfl rfl
        simp only at e1 e2
        obtain ⟨c1, c2, c3⟩ := rv_cells e2 g3
        obtain ⟨d1, d2, d3, d4⟩ := partCells_ok (κ := κ) (φ := φ) (O := O) (h := h) sz (k + 1) ps l pv hq (by simpa using hl) (fun i p q hp hq => hr (i + 1) p q (by simpa using hp) (by simpa using hq))
        have hvl : v.cells.toList.length = x.cells.length := by simpa using c1
        refine ⟨by simp only [List.length_append, List.length_cons, Nat.add_mul, d1, g2]; omega, fun j q hj => ?_, by simp only [List.flatMap_cons, List.length_append, d3, hvl], fun j y u hy hu => ?_⟩
        · cases j with
          | zero => simp at hj; subst hj; simp only; exact ⟨by omega, by omega⟩
          | succ j => have := d2 j q (by simpa using hj); omega
        · simp only [List.flatMap_cons] at hu
          by_cases hj : j < x.cells.length
          · rw [List.getElem?_append_left hj] at hy
            rw [List.getElem?_append_left (by omega)] at hu
            exact ⟨c3 j y u hy (by simpa using hu), c2 u (by have := List.mem_iff_getElem?.2 ⟨j, hu⟩; simpa using this)⟩
          · rw [List.getElem?_append_right (by omega)] at hy
            rw [List.getElem?_append_right (by omega), hvl] at hu
            exact d4 _ y u hy hu

theorem buildSlice_okR {κ : Kap} {φ : Phi} {w : World} {s : SSt} {a : Act} (F : FRel κ φ w s a) {sl t len : Nat} {parts : List (Nat × RV)} {pv : Array (Nat × Value)} {res : Res}
    (hx : exBuildSliceR (Env.of P) s.O sl t len parts = some res) (hl : pv.size = parts.length)
    (hr : ∀ (k : Nat) (p : Nat × RV) (q : Nat × Value), parts[k]? = some p → pv[k]? = some q → p.1 = q.1 ∧ RVR κ φ s.O w.heap p.2 q.2) :
    Out P κ φ w s a res.val res.upd (Instr.buildSlice t len pv) := by
  unfold exBuildSliceR at hx
  split at hx
  · rename_i e hO hu
    split at hx
    · rename_i sz zd hz hze
      cases hg : (Nat.beq parts.length len && Nat.ble (len * sz) 1000000) with
      | false => rw [hg] at hx; simp at hx
      | true =>
        rw [hg] at hx; simp only [cond_true] at hx
        simp only [Bool.and_eq_true] at hg
        have g1 := nbE hg.1
        have g3 := Nat.le_of_ble_eq_true hg.2
        cases hp : partCells sz 0 parts with
        | none => rw [hp] at hx; simp at hx
        | some cs =>
          rw [hp] at hx; simp only [Option.some.injEq] at hx; subst hx
          obtain ⟨d1, d2, d3, d4⟩ := partCells_ok (κ := κ) (φ := φ) (O := s.O) (h := w.heap) sz 0 parts cs pv.toList hp (by simpa using hl) (fun i p q hp hq => hr i p q hp (by simpa using hq))
          obtain ⟨zv, hzv, _⟩ := run_zeroValue hze w
          have hfill : ∀ B : Array Value, B.size = len * sz → Instr.fill (fun i => some (i * sz, sz)) B pv.toList = some (pv.toList.flatMap fun q => q.2.cells.toList).toArray := by
            intro B hB
            have := fill_all sz pv.toList 0 B (fun i q hq => by have := d2 i q hq; omega) (by rw [hB]; simp only [Nat.zero_add, Array.length_toList, hl, g1]; exact Nat.le_refl _)
            rw [this]
            simp only [splA, splice, Nat.zero_mul, List.take_zero, List.nil_append, Nat.zero_add]
            rw [List.drop_eq_nil_of_le (by rw [d3, d1, g1, Array.length_toList, hB]; exact Nat.le_refl _)]; simp
          have hrun : (Instr.buildSlice t len pv).run P w = .ok (.slice (some ⟨w.heap.size, 0, none⟩) len len) { w with heap := w.heap.push (.cells (pv.toList.flatMap fun q => q.2.cells.toList).toArray e (0, 0)) } := by
            simp only [Instr.buildSlice, Sem.run_bind, run_und hu, Result.andThen_ok, run_sizeOf' hz]
            rw [if_neg (show ¬ (len * sz > 2 ^ 24) by have : (2:Nat) ^ 24 = 16777216 := by decide
                                                      omega)]
            by_cases h0 : len * sz = 0
            · rw [if_pos h0]
              simp only [Sem.run_bind, Sem.run_pure, Result.andThen_ok]
              rw [hfill _ (by simp)]
              simp [newRow]
            · rw [if_neg h0]
              simp only [Sem.run_bind, hzv, Sem.run_pure, Result.andThen_ok]
              rw [hfill _ (by simp)]
              simp [newRow]
          obtain ⟨q1, q2, q3⟩ := F.alloc (i := sl) (p := .rar e cs) (o := .cells (pv.toList.flatMap fun q => q.2.cells.toList).toArray e (0, 0))
            (w' := { w with heap := w.heap.push (.cells (pv.toList.flatMap fun q => q.2.cells.toList).toArray e (0, 0)) }) rfl hO
            (fun M => ⟨_, _, (0, 0), setP_same _ _ _, setK_same _ _ _, heap_push_eq _ _, fzR00 _ _, by simp [d3], fun j x v hx hv => by
              have := d4 j x v hx (by simpa using hv)
              exact ⟨this.1.mono M, this.2⟩⟩)
          refine ⟨_, _, _, setP φ sl (.at w.heap.size), hrun, q1, ?_, q3, q2.kp⟩
          exact .sl (setP_same _ _ _) (heap_push_eq _ _) (.inl rfl) (by simp [d3, d1, g1]) (Nat.le_refl _) (fun k e => by injection e) (fun e => by cases e)
    · simp at hx
  · simp at hx

end Go.Am

/-
  The abstract machine: slices by reference: parts, places, lengths, appends, copies.
-/
namespace Go.Am
set_option linter.unusedSectionVars false
variable {P : Program} [Gl]

/-- So many elements have room for sure. -/
def capLo (O : Tab) (i sz o len : Nat) (cap : Option Nat) : Nat :=
  match cap with
  | some k => k
  | none => match O i with
    | some (.rar _ cs) => bif Nat.ble len ((cs.length - o) / sz) then (cs.length - o) / sz else len
    | _ => len

def bnd3 (L len : Nat) (l h m : Option Int) : List Bool :=
  (match m with
    | none => match h with
      | none => []
      | some h => [decide (0 ≤ h ∧ h ≤ (L : Int))]
    | some m => match h with
      | none => [false]
      | some h => [decide (0 ≤ m ∧ m ≤ (L : Int)), decide (0 ≤ h ∧ h ≤ ((m.toNat : Nat) : Int))]) ++
  (match l with
    | none => []
    | some l => [decide (0 ≤ l ∧ l ≤ ((hiOf len h : Nat) : Int))])

def mxOf (cap : Nat) : Option Int → Nat
  | none => cap
  | some m => m.toNat

theorem run_bounds3 {isSlice : Bool} {L len cap : Nat} {lo hi mx : Option Int} {lov hiv mxv : Option Value}
    (hlo : (lo = none ∧ lov = none) ∨ ∃ k m, lo = some m ∧ lov = some (.int k m)) (hhi : (hi = none ∧ hiv = none) ∨ ∃ k m, hi = some m ∧ hiv = some (.int k m))
    (hmx : (mx = none ∧ mxv = none) ∨ ∃ k m, mx = some m ∧ mxv = some (.int k m))
    (hc : ∀ b ∈ bnd3 L len lo hi mx, b = true) (hle : len ≤ cap) (hL : L ≤ cap) (w : World) :
    (Instr.sliceBounds isSlice len cap lov hiv mxv).run P w = .ok (loOf lo, hiOf len hi, mxOf cap mx) w ∧ loOf lo ≤ hiOf len hi ∧ hiOf len hi ≤ mxOf cap mx ∧ mxOf cap mx ≤ cap := by
  have first : (mx = none ∧ hi = none) ∨ (mx = none ∧ ∃ h, hi = some h ∧ 0 ≤ h ∧ h ≤ (L : Int)) ∨ (∃ m h, mx = some m ∧ hi = some h ∧ (0 ≤ m ∧ m ≤ (L : Int)) ∧ (0 ≤ h ∧ h ≤ ((m.toNat : Nat) : Int))) := by
    cases mx with
    | none => cases hi with
      | none => exact .inl ⟨rfl, rfl⟩
      | some h => exact .inr (.inl ⟨rfl, h, rfl, by simpa using hc (decide (0 ≤ h ∧ h ≤ (L : Int))) (by simp [bnd3])⟩)
    | some m => cases hi with
      | none => exact absurd (hc false (by simp [bnd3])) (by simp)
      | some h => exact .inr (.inr ⟨m, h, rfl, rfl, by simpa using hc (decide (0 ≤ m ∧ m ≤ (L : Int))) (by simp [bnd3]), by simpa using hc (decide (0 ≤ h ∧ h ≤ ((m.toNat : Nat) : Int))) (by simp [bnd3])⟩)
  have last : lo = none ∨ ∃ l, lo = some l ∧ 0 ≤ l ∧ l ≤ ((hiOf len hi : Nat) : Int) := by
    cases lo with
    | none => exact .inl rfl
    | some l => exact .inr ⟨l, rfl, by simpa using hc (decide (0 ≤ l ∧ l ≤ ((hiOf len hi : Nat) : Int))) (by simp [bnd3])⟩
  have hb : loOf lo ≤ hiOf len hi := by
    rcases last with rfl | ⟨l, rfl, h1, h2⟩
    · simp [loOf]
    · simp only [loOf]; omega
  have hm : hiOf len hi ≤ mxOf cap mx ∧ mxOf cap mx ≤ cap := by
    rcases first with ⟨rfl, rfl⟩ | ⟨rfl, h, rfl, h1, h2⟩ | ⟨m, h, rfl, rfl, h1, h2⟩
    · simp only [hiOf, mxOf]; omega
    · simp only [hiOf, mxOf]; omega
    · simp only [hiOf, mxOf]; omega
  refine ⟨?_, hb, hm.1, hm.2⟩
  rcases first with ⟨rfl, rfl⟩ | ⟨rfl, h, rfl, h1, h2⟩ | ⟨m, h, rfl, rfl, h1, h2⟩
  · rcases hmx with ⟨_, rfl⟩ | ⟨_, _, e, _⟩
    · rcases hhi with ⟨_, rfl⟩ | ⟨_, _, e, _⟩
      · simp only [Instr.sliceBounds, Sem.run_bind, Sem.run_pure, Result.andThen_ok, hiOf, mxOf]
        rcases hlo with ⟨rfl, rfl⟩ | ⟨kl, l, rfl, rfl⟩
        · simp [loOf]
        · rcases last with h' | ⟨l', h', q1, q2⟩
          · cases h'
          · injection h' with h'; subst h'
            simp only [hiOf] at q2
            simp only [Sem.run_bind, run_bound (P := P) (k := kl) ⟨q1, q2⟩, Result.andThen_ok, Sem.run_pure, loOf]
      · cases e
    · cases e
  · rcases hmx with ⟨_, rfl⟩ | ⟨_, _, e, _⟩
    · rcases hhi with ⟨e, _⟩ | ⟨k, _, e, rfl⟩
      · cases e
      · injection e with e; subst e
        simp only [Instr.sliceBounds, Sem.run_bind, Sem.run_pure, Result.andThen_ok, hiOf, mxOf, run_bound (P := P) (k := k) (show 0 ≤ h ∧ h ≤ (cap : Int) by omega)]
        rcases hlo with ⟨rfl, rfl⟩ | ⟨kl, l, rfl, rfl⟩
        · simp [loOf]
        · rcases last with h' | ⟨l', h', q1, q2⟩
          · cases h'
          · injection h' with h'; subst h'
            simp only [hiOf] at q2
            simp only [Sem.run_bind, run_bound (P := P) (k := kl) ⟨q1, q2⟩, Result.andThen_ok, Sem.run_pure, loOf]
    · cases e
  · rcases hmx with ⟨e, _⟩ | ⟨km, _, e, rfl⟩
    · cases e
    · injection e with e; subst e
      rcases hhi with ⟨e, _⟩ | ⟨k, _, e, rfl⟩
      · cases e
      · injection e with e; subst e
        simp only [Instr.sliceBounds, Sem.run_bind, Result.andThen_ok, hiOf, mxOf, run_bound (P := P) (k := km) (show 0 ≤ m ∧ m ≤ (cap : Int) by omega), run_bound (P := P) (k := k) h2]
        rcases hlo with ⟨rfl, rfl⟩ | ⟨kl, l, rfl, rfl⟩
        · simp [loOf]
        · rcases last with h' | ⟨l', h', q1, q2⟩
          · cases h'
          · injection h' with h'; subst h'
            simp only [hiOf] at q2
            simp only [Sem.run_bind, run_bound (P := P) (k := kl) ⟨q1, q2⟩, Result.andThen_ok, Sem.run_pure, loOf]

def capOf (cap : Option Nat) (l : Nat) : Option Int → Option Nat
  | some m => some (m.toNat - l)
  | none => match cap with
    | some k => some (k - l)
    | none => none

def exSliceR (E : Env) (O : Tab) (t : Nat) (x : RV) (lo hi mx : Option RV) : Option Res :=
  match intOf' lo, intOf' hi, intOf' mx with
  | some l, some h, some m => match E.und t, x with
    | some (.slice e), .sl i sz o len cap => match E.size e with
      | some z => bif Nat.beq sz z && (cellsAt O i).isSome then some { val := .sl i sz (o + loOf l * sz) (hiOf len h - loOf l) (capOf cap (loOf l) m), conds := bnd3 (capLo O i sz o len cap) len l h m } else none
      | none => none
    | some (.slice e), .d (.lst 0 [] true) => match E.size e with
      | some _ => some { val := .d (.lst 0 [] true), conds := bnd3 0 0 l h m }
      | none => none
    | some (.array n e), .ptr i off => match cellsAt O i, E.size e with
      | some cs, some z => bif Nat.ble (off + n * z) cs.length then some { val := .sl i z (off + loOf l * z) (hiOf n h - loOf l) (some (mxOf n m - loOf l)), conds := bnd3 n n l h m } else none
      | _, _ => none
    | _, _ => none
  | _, _, _ => none

theorem capLo_le {κ : Kap} {φ : Phi} {w : World} {s : SSt} {i sz o len : Nat} {cap : Option Nat} {v : Value} (r : RVR κ φ s.O w.heap (.sl i sz o len cap) v) :
    ∃ a capv, v = .slice a len capv ∧ capLo s.O i sz o len cap ≤ capv := by
  cases r with
  | sl hφ hb ho hs hl hc hn =>
    rename_i b o' capv c ty fz
    refine ⟨_, _, rfl, ?_⟩
    unfold capLo
    cases cap with
    | some k => simp only; rw [hc k rfl]; exact Nat.le_refl _
    | none =>
      simp only
      split
      · rename_i ty' cs hO
        have := hn rfl cs.length (by rw [hO]; rfl)
        cases hb : Nat.ble len ((cs.length - o) / sz) with
        | false => exact hl
        | true =>
          simp only [cond_true]
          by_cases hz : sz = 0
          · subst hz; simp
          · exact Nat.div_le_of_le_mul (by rw [Nat.mul_comm]; omega)
      · exact hl

theorem slice_okR {κ : Kap} {φ : Phi} {w : World} {s : SSt} {a : Act} (F : FRel κ φ w s a) {t : Nat} {x : RV} {lo hi mx : Option RV} {v : Value} {lov hiv mxv : Option Value} {res : Res}
    (hx : exSliceR (Env.of P) s.O t x lo hi mx = some res) (hc : ∀ b ∈ res.conds, b = true) (r : RVR κ φ s.O w.heap x v)
    (rlo : ORel κ φ s.O w.heap lo lov) (rhi : ORel κ φ s.O w.heap hi hiv) (rmx : ORel κ φ s.O w.heap mx mxv) :
    Out P κ φ w s a res.val res.upd (Instr.sliceAt t v lov hiv mxv) := by
  unfold exSliceR at hx
  split at hx
  · rename_i l h m hl hh hm
    have vl := intOf_val hl rlo
    have vh := intOf_val hh rhi
    have vm := intOf_val hm rmx
    split at hx
    · rename_i e i sz o len cap hu
      cases hz : (Env.of P).size e with
      | none => rw [hz] at hx; simp at hx
      | some z =>
        rw [hz] at hx; simp only at hx
        cases hb : (Nat.beq sz z && (cellsAt s.O i).isSome) with
        | false => rw [hb] at hx; simp at hx
        | true =>
          rw [hb] at hx; simp only [cond_true, Option.some.injEq] at hx; subst hx
          simp only [Bool.and_eq_true] at hb
          have := nbE hb.1; subst this
          obtain ⟨a1, capv1, e1, hL⟩ := capLo_le r
          cases r with
          | sl hφ hb ho hs hle hcc hn =>
            rename_i b o' capv c ty fz
            injection e1 with e1 e2 e3; subst e3
            obtain ⟨b1, b2, b3, b4⟩ := run_bounds3 (P := P) (isSlice := true) vl vh vm hc hle hL w
            have hrun : (Instr.sliceAt t (.slice (some ⟨b, o', none⟩) len capv) lov hiv mxv).run P w =
                .ok (.slice (some ⟨b, (if mxOf capv m = loOf l then o' else o' + loOf l * sz), none⟩) (hiOf len h - loOf l) (mxOf capv m - loOf l)) w := by
              simp only [Instr.sliceAt, Instr.slice, Sem.run_bind, run_und hu, Result.andThen_ok, b1, run_sizeOf' hz, Sem.run_pure, Option.map_some, add_at]
              split <;> rfl
            refine Out.pure F hrun ?_
            have hmz := Nat.mul_le_mul_right sz b4
            have hlz := Nat.mul_le_mul_right sz (show loOf l ≤ mxOf capv m by omega)
            refine .sl hφ hb ?_ ?_ (by omega) (fun k hk => ?_) (fun hk n hlen => ?_)
            · by_cases hne : mxOf capv m = loOf l
              · right; omega
              · left; rw [if_neg hne]
                rcases ho with rfl | ho
                · rfl
                · omega
            · rw [Nat.sub_mul]
              split
              · rename_i he; rw [he]; omega
              · omega
            · cases m with
              | some m => simp only [capOf, Option.some.injEq] at hk; subst hk; simp [mxOf]
              | none =>
                cases cap with
                | none => simp [capOf] at hk
                | some k0 => simp only [capOf, Option.some.injEq] at hk; subst hk; simp [mxOf, hcc k0 rfl]
            · cases m with
              | some m => simp [capOf] at hk
              | none =>
                cases cap with
                | some k0 => simp [capOf] at hk
                | none =>
                  have := hn rfl n hlen
                  simp only [mxOf] at hlz ⊢
                  rw [Nat.sub_mul]; omega
    · rename_i e hu
      cases hz : (Env.of P).size e with
      | none => rw [hz] at hx; simp at hx
      | some z =>
        rw [hz] at hx; simp only [Option.some.injEq] at hx; subst hx
        have hv : v = .slice none 0 0 := by
          cases r with
          | d hr =>
          cases hr with
          | lst0 hf => have := hf rfl; rw [this.1, this.2 rfl]
          | lst _ _ hf _ _ _ _ => have := (hf rfl).2; omega
        subst hv
        obtain ⟨b1, b2, b3, b4⟩ := run_bounds3 (P := P) (isSlice := true) (cap := 0) vl vh vm hc (Nat.le_refl _) (Nat.le_refl _) w
        have hrun : (Instr.sliceAt t (.slice none 0 0) lov hiv mxv).run P w = .ok (.slice none 0 0) w := by
          simp only [Instr.sliceAt, Instr.slice, Sem.run_bind, run_und hu, Result.andThen_ok, b1, run_sizeOf' hz, Sem.run_pure, Option.map_none]
          rw [show hiOf 0 h - loOf l = 0 by omega, show mxOf 0 m - loOf l = 0 by omega]
          split <;> rfl
        exact Out.pure F hrun (.d (.lst0 (fun _ => ⟨rfl, fun _ => rfl⟩)))
    · rename_i n e i off hu
      split at hx
      · rename_i cs z hcs hz
        cases hg : Nat.ble (off + n * z) cs.length with
        | false => rw [hg] at hx; simp at hx
        | true =>
          rw [hg] at hx; simp only [cond_true, Option.some.injEq] at hx; subst hx
          have g1 := Nat.le_of_ble_eq_true hg
          obtain ⟨b', c, ty, fz, h1, h2, h3, h4, h5, _⟩ := cells_obj F hcs
          have hcl := h5.1
          cases r with
          | ptr hφ =>
            rename_i b
            have hφ' := hφ
            rw [h1] at hφ'; injection hφ' with hφ'; subst hφ'
            obtain ⟨b1, b2, b3, b4⟩ := run_bounds3 (P := P) (isSlice := false) (cap := n) vl vh vm hc (Nat.le_refl _) (Nat.le_refl _) w
            have hrun : (Instr.sliceAt t (.pointer (some ⟨b', off, none⟩)) lov hiv mxv).run P w =
                .ok (.slice (some ⟨b', (if mxOf n m = loOf l then off else off + loOf l * z), none⟩) (hiOf n h - loOf l) (mxOf n m - loOf l)) w := by
              simp only [Instr.sliceAt, Sem.run_bind, run_und hu, Result.andThen_ok, Instr.sureAddr, Sem.run_pure, b1, run_sizeOf' hz, add_at]
              split <;> rfl
            refine Out.pure F hrun ?_
            have hmz := Nat.mul_le_mul_right z b4
            have hlz := Nat.mul_le_mul_right z (show loOf l ≤ mxOf n m by omega)
            refine .sl hφ h3 ?_ ?_ (by omega) (fun k hk => by injection hk) (fun hk => by cases hk)
            · by_cases hne : mxOf n m = loOf l
              · right; omega
              · left; rw [if_neg hne]
            · rw [Nat.sub_mul]
              split
              · rename_i he; rw [he]; omega
              · omega
      · simp at hx
    · simp at hx
  · simp at hx

def exIndexAddrR (E : Env) (t : Nat) (x i : RV) : Option Res :=
  match E.und t, x, i with
  | some (.slice e), .sl j sz o len _, .d (.int _ n) => match E.size e with
    | some z => bif Nat.beq sz z then some { val := .ptr j (o + n.toNat * sz), conds := [decide (0 ≤ n ∧ n < (len : Int))] } else none
    | none => none
  | some (.array len e), .ptr j off, .d (.int _ n) => match E.size e with
    | some z => some { val := .ptr j (off + n.toNat * z), conds := [decide (0 ≤ n ∧ n < (len : Int))] }
    | none => none
  | _, _, _ => none

theorem indexAddr_okR {κ : Kap} {φ : Phi} {w : World} {s : SSt} {a : Act} (F : FRel κ φ w s a) {t : Nat} {x i : RV} {v iv : Value} {res : Res}
    (hx : exIndexAddrR (Env.of P) t x i = some res) (hc : ∀ b ∈ res.conds, b = true) (r : RVR κ φ s.O w.heap x v) (ri : RVR κ φ s.O w.heap i iv) :
    Out P κ φ w s a res.val res.upd (Instr.indexAt t v iv) := by
  unfold exIndexAddrR at hx
  split at hx
  · rename_i e j sz o len cap k n hu
    cases hz : (Env.of P).size e with
    | none => rw [hz] at hx; simp at hx
    | some z =>
      rw [hz] at hx; simp only at hx
      cases hb : Nat.beq sz z with
      | false => rw [hb] at hx; simp at hx
      | true =>
        have := nbE hb; subst this
        rw [hb] at hx; simp only [cond_true, Option.some.injEq] at hx; subst hx
        have hn : 0 ≤ n ∧ n < (len : Int) := by simpa using hc
        cases ri with
        | d hri =>
        cases hri
        cases r with
        | sl hφ hb ho hs hle hcc hnn =>
          rename_i b o' capv c ty fz
          rcases ho with rfl | ho
          · refine Out.pure F (v := .pointer (some ⟨b, o' + n.toNat * sz, none⟩)) ?_ (.ptr hφ)
            simp only [Instr.indexAt, asIntOf, Sem.run_bind, Sem.run_pure, Result.andThen_ok, run_und hu]
            rw [if_pos hn]
            simp [run_sizeOf' hz, add_at]
          · omega
  · rename_i len e j off k n hu
    cases hz : (Env.of P).size e with
    | none => rw [hz] at hx; simp at hx
    | some z =>
      rw [hz] at hx; simp only [Option.some.injEq] at hx; subst hx
      have hn : 0 ≤ n ∧ n < (len : Int) := by simpa using hc
      cases ri with
      | d hri =>
      cases hri
      cases r with
      | ptr hφ =>
        rename_i b
        refine Out.pure F (v := .pointer (some ⟨b, off + n.toNat * z, none⟩)) ?_ (.ptr hφ)
        simp only [Instr.indexAt, asIntOf, Sem.run_bind, Sem.run_pure, Result.andThen_ok, run_und hu, Instr.sureAddr]
        rw [if_pos hn]
        simp [run_sizeOf' hz, add_at]
  · simp at hx

def exLenR (E : Env) (t : Nat) (x : RV) : Option Res :=
  match E.und t, x with
  | some (.slice _), .sl _ _ _ len _ => some { val := .d (.int .i64 (len : Int)) }
  | _, _ => none

theorem len_okR {κ : Kap} {φ : Phi} {w : World} {s : SSt} {a : Act} (F : FRel κ φ w s a) {t ty : Nat} {x : RV} {v : Value} {res : Res}
    (hx : exLenR (Env.of P) t x = some res) (r : RVR κ φ s.O w.heap x v) : Out P κ φ w s a res.val res.upd (Builtin.len_ #[t] ty #[v]) := by
  unfold exLenR at hx
  split at hx
  · rename_i e j sz o len cap hu
    injection hx with hx; subst hx
    cases r with
    | sl hφ hb ho hs hle hcc hnn =>
      refine Out.pure F (v := goInt len) ?_ (.d (goInt_DR _))
      have e0 : (#[t] : Array TypeId)[0]? = some t := rfl
      have e1 : ∀ (v : Value), (#[v] : Array Value)[0]? = some v := fun v => rfl
      simp only [Builtin.len_, e0, e1, Sem.run_bind, run_und hu, Result.andThen_ok, Sem.run_pure]
  · simp at hx

def exCapR (E : Env) (t : Nat) (x : RV) : Option Res :=
  match E.und t, x with
  | some (.slice _), .sl _ _ _ _ (some k) => some { val := .d (.int .i64 (k : Int)) }
  | some (.slice _), .d (.lst 0 [] true) => some { val := .d (.int .i64 0) }
  | _, _ => none

theorem cap_okR {κ : Kap} {φ : Phi} {w : World} {s : SSt} {a : Act} (F : FRel κ φ w s a) {t ty : Nat} {x : RV} {v : Value} {res : Res}
    (hx : exCapR (Env.of P) t x = some res) (r : RVR κ φ s.O w.heap x v) : Out P κ φ w s a res.val res.upd (Builtin.cap_ #[t] ty #[v]) := by
  have e0 : (#[t] : Array TypeId)[0]? = some t := rfl
  have e1 : ∀ (v : Value), (#[v] : Array Value)[0]? = some v := fun v => rfl
  unfold exCapR at hx
  split at hx
  · rename_i e j sz o len k hu
    injection hx with hx; subst hx
    cases r with
    | sl hφ hb ho hs hle hcc hnn =>
      have := hcc k rfl; subst this
      refine Out.pure F (v := goInt _) ?_ (.d (goInt_DR _))
      simp only [Builtin.cap_, e0, e1, Sem.run_bind, run_und hu, Result.andThen_ok, Sem.run_pure]
  · rename_i e hu
    injection hx with hx; subst hx
    have hv : v = .slice none 0 0 := by
      cases r with
      | d hr =>
      cases hr with
      | lst0 hf => have := hf rfl; rw [this.1, this.2 rfl]
      | lst _ _ hf _ _ _ _ => have := (hf rfl).2; omega
    subst hv
    refine Out.pure F (v := goInt 0) ?_ (.d (goInt_DR _))
    simp only [Builtin.cap_, e0, e1, Sem.run_bind, run_und hu, Result.andThen_ok, Sem.run_pure]
    rfl
  · simp at hx

def exBinR (E : Env) (op : BinOp) (t : Nat) (x y : RV) : Option Res :=
  match E.und t, x, y with
  | some (.slice _), .sl _ _ _ _ _, .d (.lst 0 [] true) => match eqOp op false with
    | some v => some { val := v }
    | none => none
  | _, _, _ => none

theorem bin_okR {κ : Kap} {φ : Phi} {w : World} {s : SSt} {a : Act} (F : FRel κ φ w s a) {op : BinOp} {t : Nat} {x y : RV} {xo yo : Operand} {v u : Value} {res : Res}
    (hx : exBinR (Env.of P) op t x y = some res) (r : RVR κ φ s.O w.heap x v) (r2 : RVR κ φ s.O w.heap y u) :
    Out P κ φ w s a res.val res.upd (do eqGuard op t xo yo v u; binOp op t v u) := by
  unfold exBinR at hx
  split at hx
  · rename_i e j sz o len cap hu
    split at hx
    · rename_i z he
      injection hx with hx; subst hx
      have hu2 : u = .slice none 0 0 := by
        cases r2 with
        | d hr =>
        cases hr with
        | lst0 hf => have := hf rfl; rw [this.1, this.2 rfl]
        | lst _ _ hf _ _ _ _ => have := (hf rfl).2; omega
      subst hu2
      cases r with
      | sl hφ hb ho hs hle hcc hnn =>
        rename_i b o' capv c ty fz
        have g : (eqGuard op t xo yo (.slice (some ⟨b, o', none⟩) len capv) (.slice none 0 0)).run P w = .ok () w := by
          unfold eqGuard
          cases op <;> rfl
        have hq := eq_slnil (P := P) 9999 t (some ⟨b, o', none⟩) len capv 0 0 hu w
        rcases eqOp_of he with ⟨rfl, rfl⟩ | ⟨rfl, rfl⟩
        · exact Out.pure F (v := .bool false) (by simp only [Sem.run_bind, g, Result.andThen_ok]; exact (bin_eqlS w hq).1) (.d (.bool _))
        · exact Out.pure F (v := .bool (!false)) (by simp only [Sem.run_bind, g, Result.andThen_ok]; exact (bin_eqlS w hq).2) (.d (.bool _))
    · simp at hx
  · simp at hx
end Go.Am

/-
  The abstract machine: slices by reference: appends.
-/
namespace Go.Am
set_option linter.unusedSectionVars false
variable {P : Program} [Gl]

theorem RL.concat {κ : Kap} {φ : Phi} {O : Tab} {h : Heap} {X Y R : Array Value} {xs ys : List RV} (y : RL κ φ O h Y 0 ys) (hy : Y.size = ys.length) (x : RL κ φ O h X 0 xs) (hx : X.size = xs.length) :
    RL κ φ O h (Y ++ X ++ R) 0 (ys ++ xs) := by
  refine ⟨by simp [hx, hy], fun j v u hv hu => ?_⟩
  rw [Nat.zero_add] at hu
  by_cases hj : j < ys.length
  · rw [List.getElem?_append_left hj] at hv
    rw [Array.append_assoc, Array.getElem?_append_left (by omega)] at hu
    exact y.2 j v u hv (by simpa using hu)
  · rw [List.getElem?_append_right (by omega)] at hv
    have hlt := (List.getElem?_eq_some_iff.1 hv).1
    rw [Array.append_assoc, Array.getElem?_append_right (by omega), Array.getElem?_append_left (by omega), hy] at hu
    exact x.2 _ v u hv (by simpa using hu)

theorem RL.over {κ : Kap} {φ : Phi} {O : Tab} {h : Heap} {c X : Array Value} {cs xs : List RV} {n : Nat} (y : RL κ φ O h c 0 cs) (hn : n ≤ cs.length) (x : RL κ φ O h X 0 xs) (hx : X.size = xs.length) (hs : n + xs.length ≤ c.size) :
    RL κ φ O h (splA c n X.toList) 0 (cs.take n ++ xs) := by
  have hX : X.toList.length = xs.length := by simpa using hx
  have htl : (cs.take n).length = n := by simp; omega
  refine ⟨by rw [splA_size _ _ _ (by omega)]; simp; omega, fun j v u hv hu => ?_⟩
  rw [Nat.zero_add, splA_get _ _ _ (by omega)] at hu
  by_cases hj : j < n
  · rw [List.getElem?_append_left (by omega), List.getElem?_take, if_pos hj] at hv
    rw [if_pos hj] at hu
    exact y.2 j v u hv (by simpa using hu)
  · rw [List.getElem?_append_right (by omega), htl] at hv
    have hlt := (List.getElem?_eq_some_iff.1 hv).1
    rw [if_neg hj, if_pos (by omega)] at hu
    exact x.2 _ v u hv (by simpa using hu)

section
variable {w : World} {e z by_ t t2 len n : Nat} {cap : Nat} {vx : Value} {X : Array Value} {dt2 : TypeDesc}
  (hu : (Env.of P).und t = some (.slice e)) (hu2 : (Env.of P).und t2 = some dt2) (hni : ∀ k, dt2 ≠ .int k) (hz : (Env.of P).size e = some z)
  (hl : (Builtin.lenOf vx).run P w = .ok n w) (hX : (Builtin.firstCells z n vx).run P w = .ok X w)
include hu hu2 hni hz hl hX

theorem run_append_fitO {b o : Nat} {c : Array Value} {ty : TypeId} {fz : Nat × Nat} (hfit : len + n ≤ cap) (hb : w.heap[b]? = some (.cells c ty fz)) (hf : FzOk fz c.size)
    (hs : o + len * z + X.size ≤ c.size) (h1 : ∀ v ∈ X, v.oneCell = true) :
    (Builtin.append_ #[t, t2] t #[.slice (some ⟨b, o, none⟩) len cap, vx]).run P w = .ok (.slice (some ⟨b, o, none⟩) (len + n) cap) (World.row w b (.cells (splA c (o + len * z) X.toList) ty fz)) := by
  simp only [Builtin.append_]
  rw [show (#[t, t2] : Array TypeId)[0]? = some t from rfl, show (#[t, t2] : Array TypeId)[1]? = some t2 from rfl,
    show (#[Value.slice (some ⟨b, o, none⟩) len cap, vx] : Array Value)[0]? = some (.slice (some ⟨b, o, none⟩) len cap) from rfl, show (#[Value.slice (some ⟨b, o, none⟩) len cap, vx] : Array Value)[1]? = some vx from rfl]
  have _ := hni
  have _ := hX
  simp only [Sem.run_bind, run_und hu, Result.andThen_ok, run_sizeOf' hz, run_und hu2, Sem.run_pure, Bool.false_eq_true, if_false, hl]
  rw [if_pos hfit]
  have := run_storeCells_any (P := P) b (o + len * z) ty fz X.toList 0 c w hb hf (by simpa using hs) (by simpa using h1)
  simp only [Bool.not_false, if_true, Sem.run_bind, hX, Result.andThen_ok, add_at]
  rw [this]
  simp
end

/-- An append that has no room: a new array. -/
theorem append_growR {κ : Kap} {φ : Phi} {w : World} {s : SSt} {a : Act} (F : FRel κ φ w s a) {d e z by_ t t2 len m : Nat} {ys xs : List RV} {base : Option Addr} {cap : Nat} {vx : Value} {X Y : Array Value} {dt2 : TypeDesc}
    (hd : s.O d = none) (hu : (Env.of P).und t = some (.slice e)) (hu2 : (Env.of P).und t2 = some dt2) (hni : ∀ k, dt2 ≠ .int k) (hz : (Env.of P).size e = some z) (hby : (Env.of P).bytes e = some by_)
    (hze : zeroOk (Env.of P) e z = true) (hb1 : 1 ≤ by_) (hroom : (len + m) * by_ ≤ 2 ^ 38) (hfit : ¬ len + m ≤ cap)
    (hl : (Builtin.lenOf vx).run P w = .ok m w) (hX : ∀ w' : World, w'.heap = w.heap → (Builtin.firstCells z m vx).run P w' = .ok X w') (hXs : X.size = m * z) (hxl : xs.length = m * z) (hXr : RL κ φ s.O w.heap X 0 xs)
    (hY : ∀ w' : World, w'.heap = w.heap → (Builtin.firstCells z len (.slice base len cap)).run P w' = .ok Y w') (hYs : Y.size = len * z) (hyl : ys.length = len * z) (hYr : RL κ φ s.O w.heap Y 0 ys) :
    Out P κ φ w s a (.sl d z 0 (len + m) none) [(d, .rar e (ys ++ xs))] (Builtin.append_ #[t, t2] t #[.slice base len cap, vx]) := by
  obtain ⟨zv, hzv, hzs⟩ := zeroOk_of hze { w with drawn := w.drawn + 1 }
  obtain ⟨newCap, R, g1, g2, g3⟩ := run_append_grow (len := len) (n := m) (cap := cap) (base := base) hu hu2 hni hz hl (hX w rfl) hby hb1 hroom hfit hzv (hX { w with drawn := w.drawn + 1 } rfl) (hY { w with drawn := w.drawn + 1 } rfl)
  have hsize : (Y ++ X ++ R).size = newCap * z := by
    simp only [Array.size_append, hYs, hXs, g2, hzs]
    rw [← Nat.add_mul, ← Nat.add_mul]; congr 1; omega
  obtain ⟨q1, q2, q3⟩ := F.alloc (i := d) (p := .rar e (ys ++ xs)) (o := .cells (Y ++ X ++ R) e (0, 0)) (w' := { w with drawn := w.drawn + 1, heap := w.heap.push (.cells (Y ++ X ++ R) e (0, 0)) }) rfl hd
    (fun M => ⟨_, _, (0, 0), setP_same _ _ _, setK_same _ _ _, heap_push_eq _ _, fzR00 _ _, RL.mono M (RL.concat hYr (by omega) hXr (by omega))⟩)
  refine ⟨_, _, _, setP φ d (.at w.heap.size), g3, q1, ?_, q3, q2.kp⟩
  have hle := Nat.mul_le_mul_right z g1
  refine .sl (setP_same _ _ _) (heap_push_eq _ _) (.inl rfl) (by rw [hsize]; omega) g1 (fun k e => by cases e) (fun _ n hn => ?_)
  have : PObj.len? (setT s.O d (some (.rar e (ys ++ xs))) d) = some n := hn
  rw [setT_same] at this; simp [PObj.len?] at this
  rw [Nat.add_mul] at hle; omega

/-- An append in place, behind which the array is another object. -/
theorem append_moveR {κ : Kap} {φ : Phi} {w : World} {s : SSt} {a : Act} (F : FRel κ φ w s a) {d i e z t t2 len m b : Nat} {cs xs : List RV} {cap : Nat} {vx : Value} {X c : Array Value} {fz : Nat × Nat} {dt2 : TypeDesc}
    (hd : s.O d = none) (hu : (Env.of P).und t = some (.slice e)) (hu2 : (Env.of P).und t2 = some dt2) (hni : ∀ k, dt2 ≠ .int k) (hz : (Env.of P).size e = some z) (hfit : len + m ≤ cap)
    (hl : (Builtin.lenOf vx).run P w = .ok m w) (hX : (Builtin.firstCells z m vx).run P w = .ok X w) (hXs : X.size = m * z) (hxl : xs.length = m * z) (hXr : RL κ φ s.O w.heap X 0 xs)
    (hgone : s.O i = some .gone) (hκ : κ b = .own i) (hb : w.heap[b]? = some (.cells c e fz)) (hfz : FzR e fz c.size) (hcs : RL κ φ s.O w.heap c 0 cs) (hlen : len * z ≤ cs.length) (hcap : cap * z ≤ c.size) :
    Out P κ φ w s a (.sl d z 0 (len + m) none) [(d, .rar e (cs.take (len * z) ++ xs))] (Builtin.append_ #[t, t2] t #[.slice (some ⟨b, 0, none⟩) len cap, vx]) := by
  have hun : φ d = .un := by have := F.objs d; rw [hd] at this; exact this
  have hle := Nat.mul_le_mul_right z hfit
  rw [Nat.add_mul] at hle
  have hone : ∀ v ∈ X, v.oneCell = true := fun v hv => by
    obtain ⟨j, hj⟩ := Array.mem_iff_getElem?.1 hv
    have hlt := (Array.getElem?_eq_some_iff.1 hj).1
    have hlt2 : j < xs.length := by omega
    exact (hXr.2 j _ v (List.getElem?_eq_getElem hlt2) (by simpa using hj)).2
  have hrun := run_append_fitO (len := len) (n := m) (cap := cap) (o := 0) hu hu2 hni hz hl hX hfit hb hfz.1 (by omega) hone
  rw [Nat.zero_add] at hrun
  have hsize : (splA c (len * z) X.toList).size = c.size := splA_size _ _ _ (by simp; omega)
  obtain ⟨q1, q2, q3⟩ := F.upd1 (i := d) (p := .rar e (cs.take (len * z) ++ xs)) (κ' := setK κ b (.own d)) (φ' := setP φ d (.at b)) (w' := World.row w b (.cells (splA c (len * z) X.toList) e fz))
    (by simp [World.row]) (fun x hx => by rw [setK_ne _ _ (fun e => by subst e; rw [hκ] at hx; cases hx)]; exact hx)
    (fun x j hj hg hx => by rw [setK_ne _ _ (fun e => by subst e; rw [hκ] at hx; injection hx with hx; subst hx; exact hg hgone)]; exact hx)
    (fun x _ hx => by rw [setK_ne _ _ (fun e => by subst e; rw [hκ] at hx; cases hx)]; exact hx)
    (fun x hx _ hg => row_heap_ne _ _ (fun e => by subst e; exact hg i hκ hgone))
    (fun j hj => setP_ne _ _ hj) (fun h => absurd hun h)
    (fun x c0 ty0 fz0 hc0 => by
      by_cases e : x = b
      · subst e; rw [hb] at hc0; injection hc0 with hc0; injection hc0 with e1 e2 e3; subst e1; subst e2
        exact ⟨_, _, row_heap hb, hsize⟩
      · exact ⟨c0, fz0, by rw [row_heap_ne _ _ e]; exact hc0, rfl⟩)
    (fun h => absurd hun h)
    (fun x hx => by
      simp only [World.row, Array.size_setIfInBounds]
      by_cases e : x = b
      · subst e; exact lt_of_get hb
      · rw [setK_ne _ _ e] at hx; exact F.bnd.lt x hx)
    (fun M => ⟨b, _, fz, setP_same _ _ _, setK_same _ _ _, row_heap hb, by rw [hsize]; exact hfz, RL.mono M (RL.over hcs hlen hXr (by omega) (by omega))⟩)
  refine ⟨_, _, _, setP φ d (.at b), hrun, q1, ?_, q3, q2.kp⟩
  refine .sl (setP_same _ _ _) (row_heap hb) (.inl rfl) (by rw [hsize]; omega) hfit (fun k e => by cases e) (fun _ n hn => ?_)
  have : PObj.len? (setT s.O d (some (.rar e (cs.take (len * z) ++ xs))) d) = some n := hn
  rw [setT_same] at this; simp [PObj.len?] at this; omega

def roomFor (O : Tab) (i sz o len m : Nat) (cap : Option Nat) (n : Nat) : Bool :=
  Nat.ble (o + (len + m) * sz) n && match cap with
    | some k => Nat.ble (len + m) k
    | none => match O i with
      | some (.rar _ _) => Nat.ble 1 sz
      | _ => false

def exAppendR (E : Env) (O : Tab) (sl t : Nat) (s x : RV) : Option Res :=
  match E.und t with
  | some (.slice e) => match E.size e, E.bytes e with
    | some z, some by_ => match srcCells O z x with
      | some (m, xs) => bif Nat.ble 1 by_ && zeroOk E e z then
          match s with
          | .d (.lst 0 [] true) => bif Nat.beq m 0 then some { val := .d (.lst 0 [] true) } else match O sl with
            | none => some { val := .sl sl z 0 (0 + m) none, upd := [(sl, .rar e ([] ++ xs))], conds := [decide ((0 + m) * by_ ≤ 2 ^ 38)] }
            | some _ => none
          | .sl i sz o len cap => bif Nat.beq m 0 then some { val := .sl i sz o len cap } else match cellsAt O i with
            | some cs => bif Nat.beq sz z && Nat.ble (o + len * sz) cs.length then
                bif roomFor O i sz o len m cap cs.length then some { val := .sl i sz o (len + m) cap, upd := [(i, setC O i (splice cs (o + len * sz) xs))] }
                else match cap with
                  | some k => match O sl with
                    | none => some { val := .sl sl sz 0 (len + m) none, upd := [(sl, .rar e ((cs.drop o).take (len * sz) ++ xs))], conds := [decide ((len + m) * by_ ≤ 2 ^ 38), decide (k < len + m)] }
                    | some _ => none
                  | none => match O i, O sl with
                    | some (.rar ty _), none => bif Nat.beq ty e && Nat.beq o 0 && !(Nat.beq i sl) then
                        some { val := .sl sl sz 0 (len + m) none, upd := [(i, .gone), (sl, .rar e (cs.take (len * sz) ++ xs))], conds := [decide ((len + m) * by_ ≤ 2 ^ 38)] }
                      else none
                    | _, _ => none
              else none
            | none => none
          | _ => none
        else none
      | none => none
    | _, _ => none
  | _ => none

theorem append_okR {κ : Kap} {φ : Phi} {w : World} {s : SSt} {a : Act} (F : FRel κ φ w s a) {sl t t2 : Nat} {x y : RV} {v vx : Value} {dt2 : TypeDesc} {res : Res}
    (hx : exAppendR (Env.of P) s.O sl t x y = some res) (hc : ∀ b ∈ res.conds, b = true) (hu2 : (Env.of P).und t2 = some dt2) (hni : ∀ k, dt2 ≠ .int k)
    (r : RVR κ φ s.O w.heap x v) (r2 : RVR κ φ s.O w.heap y vx) : Out P κ φ w s a res.val res.upd (Builtin.append_ #[t, t2] t #[v, vx]) := by
  unfold exAppendR at hx
  split at hx
  · rename_i e hu
    split at hx
    · rename_i z by_ hz hby
      split at hx
      · rename_i m xs hsrc
        obtain ⟨sx1, sx2, sx3⟩ := srcCells_ok F hsrc r2
        obtain ⟨X, hX, hXs, hXr⟩ := sx3 m (Nat.le_refl _)
        rw [List.take_of_length_le (by omega)] at hXr
        cases hg : (Nat.ble 1 by_ && zeroOk (Env.of P) e z) with
        | false => rw [hg] at hx; simp at hx
        | true =>
          rw [hg] at hx; simp only [cond_true] at hx
          simp only [Bool.and_eq_true] at hg
          have g1 := Nat.le_of_ble_eq_true hg.1
          have g2 := hg.2
          split at hx
          · -- nil
            have hv : v = .slice none 0 0 := by
              cases r with
              | d hr =>
              cases hr with
              | lst0 hf => have := hf rfl; rw [this.1, this.2 rfl]
              | lst _ _ hf _ _ _ _ => have := (hf rfl).2; omega
            subst hv
            cases hm : Nat.beq m 0 with
            | true =>
              have := nbE hm; subst this
              rw [hm] at hx; simp only [cond_true, Option.some.injEq] at hx; subst hx
              have hX0 : X = #[] := Array.eq_empty_of_size_eq_zero (by omega)
              exact Out.pure F (run_append_none (len := 0) (n := 0) (cap := 0) (base := none) hu hu2 hni hz (sx2 w rfl) (hX w rfl) (Nat.le_refl _) (.inl rfl)) (.d (.lst0 (fun _ => ⟨rfl, fun _ => rfl⟩)))
            | false =>
              rw [hm] at hx; simp only [cond_false] at hx
              have hm0 : m ≠ 0 := fun e => by rw [nbT e] at hm; cases hm
              split at hx
              · rename_i hO
                injection hx with hx; subst hx
                exact append_growR F (len := 0) (m := m) (Y := #[]) (ys := []) hO hu hu2 hni hz hby g2 g1 (by simpa using hc (decide ((0 + m) * by_ ≤ 2 ^ 38)) (by simp)) (by omega) (sx2 w rfl) hX hXs sx1 hXr (fun w' _ => rfl) (by simp) (by simp) RL.nil
              · simp at hx
          · -- a slice
            rename_i i sz o len cap hxo
            clear hxo
            cases hm : Nat.beq m 0 with
            | true =>
              have := nbE hm; subst this
              rw [hm] at hx; simp only [cond_true, Option.some.injEq] at hx; subst hx
              have hX0 : X = #[] := Array.eq_empty_of_size_eq_zero (by omega)
              have r' := r
              cases r with
              | sl hφ hb ho hs hle hcc hnn => exact Out.pure F (run_append_none hu hu2 hni hz (sx2 w rfl) (hX w rfl) (by omega) (.inr ⟨rfl, hX0⟩)) r'
            | false =>
              rw [hm] at hx; simp only [cond_false] at hx
              have hm0 : m ≠ 0 := fun e => by rw [nbT e] at hm; cases hm
              split at hx
              · rename_i cs hcs
                cases hg3 : (Nat.beq sz z && Nat.ble (o + len * sz) cs.length) with
                | false => rw [hg3] at hx; simp at hx
                | true =>
                  rw [hg3] at hx; simp only [cond_true] at hx
                  simp only [Bool.and_eq_true] at hg3
                  have := nbE hg3.1; subst this
                  have g3 := Nat.le_of_ble_eq_true hg3.2
                  obtain ⟨b, o', capv, c, ty, fz, rfl, h1, h2, h3, h4, h5, h6, h7, h8, h9, h10⟩ := sl_cells F hcs r
                  have hcl := h5.1
                  have hYr : ∃ Y, (∀ w' : World, w'.heap = w.heap → (Builtin.firstCells sz len (.slice (some ⟨b, o', none⟩) len capv)).run P w' = .ok Y w') ∧ Y.size = len * sz ∧ RL κ φ s.O w.heap Y 0 ((cs.drop o).take (len * sz)) := by
                    rcases h6 with rfl | h6
                    · obtain ⟨p1, p2, p3⟩ := h5.part (o := o') (n := len * sz) g3
                      exact ⟨_, fun w' hw => by simp only [Builtin.firstCells]; exact run_loadCells_at (by rw [hw]; exact h3) (by omega), p2, p1⟩
                    · have : len = 0 := by omega
                      subst this
                      exact ⟨#[], fun w' _ => by simp only [Builtin.firstCells, Nat.zero_mul, loadCells, loadCellsFrom]; rfl, by simp, by simpa using RL.nil⟩
                  obtain ⟨Y, hY, hYs, hYr⟩ := hYr
                  have hyl : ((cs.drop o).take (len * sz)).length = len * sz := by simp; omega
                  cases hr : roomFor s.O i sz o len m cap cs.length with
                  | true =>
                    rw [hr] at hx; simp only [cond_true, Option.some.injEq] at hx; subst hx
                    simp only [roomFor, Bool.and_eq_true] at hr
                    have r1 := Nat.le_of_ble_eq_true hr.1
                    have hfit : len + m ≤ capv := by
                      cases cap with
                      | some k => rw [h9 k rfl]; exact Nat.le_of_ble_eq_true hr.2
                      | none =>
                        have hr2 := hr.2
                        simp only at hr2
                        split at hr2
                        · rename_i ty' cs' hO
                          have e1 : cs' = cs := by simp [cellsAt, hO] at hcs; exact hcs
                          subst e1
                          have h11 := h10 rfl cs'.length (by rw [hO]; rfl)
                          have hsz := Nat.le_of_ble_eq_true hr2
                          have : (len + m) * sz ≤ capv * sz := by omega
                          exact Nat.le_of_mul_le_mul_right this hsz
                        · cases hr2
                    rcases h6 with rfl | h6
                    · have hexp : (len + m) * sz = len * sz + m * sz := Nat.add_mul _ _ _
                      have hone : ∀ v ∈ X, v.oneCell = true := fun v hv => by
                        obtain ⟨j, hj⟩ := Array.mem_iff_getElem?.1 hv
                        have hlt := (Array.getElem?_eq_some_iff.1 hj).1
                        have hlt2 : j < xs.length := by omega
                        exact (hXr.2 j _ v (List.getElem?_eq_getElem hlt2) (by simpa using hj)).2
                      obtain ⟨c', ty', fz', e1, e2, e3, e4, e5, e6⟩ := cells_store F hcs h1 (o := o' + len * sz) (ys := xs) (vs := X.toList) (by omega) (by simp; omega) (fun j x' v' hx' hv' => hXr.2 j x' v' hx' (by simpa using hv')) (by simpa using hone)
                      rw [h3] at e1; injection e1 with e1; injection e1 with q1 q2 q3; subst q1; subst q2; subst q3
                      have hrun := run_append_fitO (len := len) (n := m) (cap := capv) (o := o') hu hu2 hni hz (sx2 w rfl) (hX w rfl) hfit h3 h4 (by omega) hone
                      refine ⟨_, _, κ, φ, hrun, e4, ?_, e6, e5.kp⟩
                      have r' := RVR.mono e5 r
                      cases r' with
                      | sl hφ hb ho hs hle hcc hnn => exact .sl hφ hb ho hs hfit hcc hnn
                    · omega
                  | false =>
                    rw [hr] at hx; simp only [cond_false] at hx
                    split at hx
                    · rename_i k
                      split at hx
                      · rename_i hO
                        injection hx with hx; subst hx
                        have hk : k < len + m := by simpa using hc (decide (k < len + m)) (by simp)
                        have := h9 k rfl
                        exact append_growR F (len := len) (m := m) hO hu hu2 hni hz hby g2 g1 (by simpa using hc (decide ((len + m) * by_ ≤ 2 ^ 38)) (by simp)) (by omega) (sx2 w rfl) hX hXs sx1 hXr hY hYs hyl hYr
                      · simp at hx
                    · split at hx
                      · rename_i ty' cs' hOi hO
                        have e1 : cs' = cs := by simp [cellsAt, hOi] at hcs; exact hcs
                        subst e1
                        cases hg4 : (Nat.beq ty' e && Nat.beq o 0 && !(Nat.beq i sl)) with
                        | false => rw [hg4] at hx; simp at hx
                        | true =>
                          rw [hg4] at hx; simp only [cond_true, Option.some.injEq] at hx; subst hx
                          simp only [Bool.and_eq_true, Bool.not_eq_true'] at hg4
                          obtain ⟨⟨k1, k2⟩, k3⟩ := hg4
                          have := nbE k1; subst this
                          have := nbE k2; subst this
                          have hid : i ≠ sl := fun e => by rw [nbT e] at k3; cases k3
                          have hroom : (len + m) * by_ ≤ 2 ^ 38 := by simpa using hc (decide ((len + m) * by_ ≤ 2 ^ 38)) (by simp)
                          obtain ⟨F1, M1, R1⟩ := F.gone i (by rw [h1]; simp)
                          have hd1 : setT s.O i (some .gone) sl = none := by rw [setT_ne _ _ (fun e => hid e.symm)]; exact hO
                          have hty : ty = ty' ∧ FzR ty' fz c.size := by
                            have ho := F.objs i
                            rw [hOi] at ho
                            obtain ⟨b2, c2, fz2, k1, k2, k3, k4, _⟩ := ho
                            rw [h1] at k1; injection k1 with k1; subst k1
                            rw [h3] at k3; injection k3 with k3; injection k3 with e1 e2 e3
                            subst e1; subst e3; exact ⟨e2, k4⟩
                          obtain ⟨hty, hfr⟩ := hty
                          subst hty
                          have fin : Out P κ φ w { s with O := setT s.O i (some .gone) } a (.sl sl sz 0 (len + m) none) [(sl, .rar ty (cs'.take (len * sz) ++ xs))] (Builtin.append_ #[t, t2] t #[.slice (some ⟨b, o', none⟩) len capv, vx]) := by
                            by_cases hfit : len + m ≤ capv
                            · have ho0 : o' = 0 := by rcases h6 with h6 | h6; exact h6; omega
                              subst ho0
                              exact append_moveR F1 hd1 hu hu2 hni hz hfit (sx2 w rfl) (hX w rfl) hXs sx1 (RL.mono M1 hXr) (setT_same _ _ _) h2 h3 hfr (RL.mono M1 h5) (by omega) (by omega)
                            · have := append_growR F1 (len := len) (m := m) hd1 hu hu2 hni hz hby g2 g1 hroom hfit (sx2 w rfl) hX hXs sx1 (RL.mono M1 hXr) hY hYs hyl (RL.mono M1 hYr)
                              simpa using this
                          obtain ⟨v', w', κ', φ', o1, o2, o3, o4⟩ := fin
                          exact ⟨v', w', κ', φ', o1, o2, o3, R1.trans o4.1, M1.kp.trans o4.2⟩
                      · simp at hx
              · simp at hx
          · simp at hx
      · simp at hx
    · simp at hx
  · simp at hx
end Go.Am

/-
  The abstract machine: slices by reference: copies, clearing, making, bytes.
-/
namespace Go.Am
set_option linter.unusedSectionVars false
variable {P : Program} [Gl]

def repL : Nat → List RV → List RV
  | 0, _ => []
  | n + 1, l => l ++ repL n l

theorem repL_length (l : List RV) : ∀ n, (repL n l).length = n * l.length
  | 0 => by simp [repL]
  | n + 1 => by simp only [repL, List.length_append, repL_length l n, Nat.add_mul]; omega

theorem repL_get (l : List RV) : ∀ (n j : Nat) (x : RV), (repL n l)[j]? = some x → j < n * l.length ∧ l[j % l.length]? = some x
  | 0, j, x, h => by simp [repL] at h
  | n + 1, j, x, h => by
    simp only [repL] at h
    by_cases hj : j < l.length
    · rw [List.getElem?_append_left hj] at h
      refine ⟨by rw [Nat.add_mul]; omega, by rw [Nat.mod_eq_of_lt hj]; exact h⟩
    · rw [List.getElem?_append_right (by omega)] at h
      obtain ⟨h1, h2⟩ := repL_get l n _ x h
      refine ⟨by rw [Nat.add_mul]; omega, ?_⟩
      rw [Nat.mod_eq_sub_mod (by omega)]; exact h2

def exCopyR (E : Env) (O : Tab) (t : Nat) (x y : RV) : Option Res :=
  match E.und t with
  | some (.slice e) => match E.size e with
    | some z => match srcCells O z y with
      | some (m, ys) => match x with
        | .d (.lst 0 [] true) => some { val := .d (.int .i64 0) }
        | .sl i sz o len _ => bif Nat.beq (Nat.min m len) 0 then some { val := .d (.int .i64 0) } else match cellsAt O i with
          | some cs => bif Nat.beq sz z && Nat.ble (o + Nat.min m len * sz) cs.length then
              some { val := .d (.int .i64 ((Nat.min m len : Nat) : Int)), upd := [(i, setC O i (splice cs o (ys.take (Nat.min m len * z))))] } else none
          | none => none
        | _ => none
      | none => none
    | none => none
  | _ => none

theorem copy_okR {κ : Kap} {φ : Phi} {w : World} {s : SSt} {a : Act} (F : FRel κ φ w s a) {t t2 ty : Nat} {x y : RV} {v vx : Value} {res : Res}
    (hx : exCopyR (Env.of P) s.O t x y = some res) (r : RVR κ φ s.O w.heap x v) (r2 : RVR κ φ s.O w.heap y vx) : Out P κ φ w s a res.val res.upd (Builtin.copy_ #[t, t2] ty #[v, vx]) := by
  unfold exCopyR at hx
  split at hx
  · rename_i e hu
    split at hx
    · rename_i z hz
      split at hx
      · rename_i m ys hsrc
        obtain ⟨sx1, sx2, sx3⟩ := srcCells_ok (P := P) F hsrc r2
        have q0 : (#[t, t2] : Array TypeId)[0]? = some t := rfl
        have q1 : ∀ u v : Value, (#[u, v] : Array Value)[0]? = some u := fun _ _ => rfl
        have q2 : ∀ u v : Value, (#[u, v] : Array Value)[1]? = some v := fun _ _ => rfl
        split at hx
        · injection hx with hx; subst hx
          have hv : v = .slice none 0 0 := by
            cases r with
            | d hr =>
            cases hr with
            | lst0 hf => have := hf rfl; rw [this.1, this.2 rfl]
            | lst _ _ hf _ _ _ _ => have := (hf rfl).2; omega
          subst hv
          obtain ⟨X, hX, _, _⟩ := sx3 0 (Nat.zero_le _)
          refine Out.pure F (v := goInt 0) ?_ (.d (goInt_DR _))
          have : Nat.min m 0 = 0 := Nat.min_zero m
          simp only [Builtin.copy_, q0, q1, q2, Sem.run_bind, run_und hu, Result.andThen_ok, sx2 w rfl, this, run_sizeOf' hz, hX w rfl, Sem.run_pure]
          rfl
        · rename_i i sz o len cap
          have hfin : ∀ b o' capv, Nat.min m len = 0 → (Builtin.copy_ #[t, t2] ty #[.slice (some ⟨b, o', none⟩) len capv, vx]).run P w = .ok (goInt 0) w := by
            intro b o' capv h0
            obtain ⟨X, hX, hXs, _⟩ := sx3 0 (Nat.zero_le _)
            have : X = #[] := Array.eq_empty_of_size_eq_zero (by omega)
            subst this
            simp only [Builtin.copy_, q0, q1, q2, Sem.run_bind, run_und hu, Result.andThen_ok, sx2 w rfl, h0, run_sizeOf' hz, hX w rfl, Sem.run_pure, storeCells]
            rfl
          cases h0 : Nat.beq (Nat.min m len) 0 with
          | true =>
            rw [h0] at hx; simp only [cond_true, Option.some.injEq] at hx; subst hx
            cases r with
            | sl hφ hb ho hs hle hcc hnn => exact Out.pure F (hfin _ _ _ (nbE h0)) (.d (goInt_DR _))
          | false =>
            rw [h0] at hx; simp only [cond_false] at hx
            have hne : Nat.min m len ≠ 0 := fun e => by rw [nbT e] at h0; cases h0
            have hml : Nat.min m len ≤ m := Nat.min_le_left _ _
            have hll : Nat.min m len ≤ len := Nat.min_le_right _ _
            generalize hk : Nat.min m len = k at *
            split at hx
            · rename_i cs hcs
              cases hg : (Nat.beq sz z && Nat.ble (o + k * sz) cs.length) with
              | false => rw [hg] at hx; simp at hx
              | true =>
                rw [hg] at hx; simp only [cond_true, Option.some.injEq] at hx; subst hx
                simp only [Bool.and_eq_true] at hg
                have := nbE hg.1; subst this
                have g3 := Nat.le_of_ble_eq_true hg.2
                obtain ⟨X, hX, hXs, hXr⟩ := sx3 k hml
                obtain ⟨b, o', capv, c, cty, fz, rfl, h1, h2, h3, h4, h5, h6, h7, h8, h9, h10⟩ := sl_cells F hcs r
                have ho : o' = o := by rcases h6 with h6 | h6; exact h6; omega
                subst ho
                have hkm := Nat.mul_le_mul_right sz hml
                have hyl : (ys.take (k * sz)).length = k * sz := by simp; omega
                have hone : ∀ v ∈ X.toList, v.oneCell = true := fun v hv => by
                  obtain ⟨j, hj⟩ := List.mem_iff_getElem?.1 hv
                  have hlt := (List.getElem?_eq_some_iff.1 hj).1
                  have hlt2 : j < (ys.take (k * sz)).length := by simp at hlt; omega
                  exact (hXr.2 j _ v (List.getElem?_eq_getElem hlt2) (by simpa using hj)).2
                obtain ⟨c', ty', fz', e1, e2, e3, e4, e5, e6⟩ := cells_store F hcs h1 (o := o') (ys := ys.take (k * sz)) (vs := X.toList) (by omega) (by simp; omega) (fun j x' v' hx' hv' => hXr.2 j x' v' hx' (by simpa using hv')) hone
                have hst := run_storeCells_any (P := P) b o' ty' fz' X.toList 0 c' w e1 e2 (by simpa using e3) hone
                refine ⟨_, _, κ, φ, ?_, e4, .d (goInt_DR _), e6, e5.kp⟩
                simp only [Builtin.copy_, q0, q1, q2, Sem.run_bind, run_und hu, Result.andThen_ok, sx2 w rfl, hk, run_sizeOf' hz, hX w rfl, Sem.run_pure]
                rw [hst]
                simp
            · simp at hx
        · simp at hx
      · simp at hx
    · simp at hx
  · simp at hx

def exClearR (E : Env) (O : Tab) (t : Nat) (x : RV) : Option Res :=
  match E.und t with
  | some (.slice e) => match x with
    | .d (.lst 0 [] true) => some { val := .d (.tup []) }
    | .sl i sz o len _ => bif Nat.beq len 0 then some { val := .d (.tup []) } else match cellsAt O i, E.zero e with
      | some cs, some z => bif Nat.beq z.cells.length sz && okPart (.d z) && Nat.ble (o + len * sz) cs.length then
          some { val := .d (.tup []), upd := [(i, setC O i (splice cs o (repL len (z.cells.map .d))))] } else none
      | _, _ => none
    | _ => none
  | _ => none

theorem zero_cells {κ : Kap} {φ : Phi} {O : Tab} {h : Heap} {z : DV} {zv : Value} (r : DR κ h z zv) (hk : okPart (.d z) = true) {B : Array Value} {n : Nat}
    (hB : ∀ k, k < n * zv.cells.size → B[k]? = zv.cells[k % zv.cells.size]?) (hs : n * zv.cells.size ≤ B.size) : RL κ φ O h B 0 (repL n (z.cells.map .d)) := by
  obtain ⟨c1, c2, c3⟩ := rv_cells (φ := φ) (O := O) (.d r) hk
  simp only [RV.cells] at c1 c3
  refine ⟨by rw [repL_length, ← c1]; omega, fun j x v hx hv => ?_⟩
  obtain ⟨g1, g2⟩ := repL_get _ n j x hx
  rw [Nat.zero_add, hB j (by rw [c1]; exact g1)] at hv
  rw [c1] at hv
  exact ⟨c3 _ x v g2 hv, c2 v (Array.mem_iff_getElem?.2 ⟨_, hv⟩)⟩

theorem zeroCells_at (c : Array Value) (n k : Nat) (h : k < n * c.size) : (Builtin.zeroCells c n)[k]? = c[k % c.size]? := by
  have hpos : 0 < c.size := by
    rcases Nat.eq_zero_or_pos c.size with e | e
    · rw [e] at h; omega
    · exact e
  have hlt : k % c.size < c.size := Nat.mod_lt _ hpos
  simp only [Builtin.zeroCells]
  have e1 : ((Array.range (n * c.size)).map (fun i => c[i % c.size]!))[k]? = some (c[k % c.size]!) := by simp [h]
  rw [e1, getElem!_pos c (k % c.size) hlt, getElem?_pos c (k % c.size) hlt]

theorem clear_okR {κ : Kap} {φ : Phi} {w : World} {s : SSt} {a : Act} (F : FRel κ φ w s a) {t ty : Nat} {x : RV} {v : Value} {res : Res}
    (hx : exClearR (Env.of P) s.O t x = some res) (r : RVR κ φ s.O w.heap x v) : Out P κ φ w s a res.val res.upd (Builtin.clear_ #[t] ty #[v]) := by
  have q0 : (#[t] : Array TypeId)[0]? = some t := rfl
  have q1 : ∀ u : Value, (#[u] : Array Value)[0]? = some u := fun _ => rfl
  have tupR : RVR κ φ s.O w.heap (.d (.tup [])) (.tuple #[]) := .d (.tup rfl (by simp))
  unfold exClearR at hx
  split at hx
  · rename_i e hu
    split at hx
    · injection hx with hx; subst hx
      have hv : v = .slice none 0 0 := by
        cases r with
        | d hr =>
        cases hr with
        | lst0 hf => have := hf rfl; rw [this.1, this.2 rfl]
        | lst _ _ hf _ _ _ _ => have := (hf rfl).2; omega
      subst hv
      exact Out.pure F (by simp only [Builtin.clear_, q0, q1, Sem.run_bind, run_und hu, Result.andThen_ok, Sem.run_pure]) tupR
    · rename_i i sz o len cap
      cases h0 : Nat.beq len 0 with
      | true =>
        have := nbE h0; subst this
        rw [h0] at hx; simp only [cond_true, Option.some.injEq] at hx; subst hx
        cases r with
        | sl hφ hb ho hs hle hcc hnn => exact Out.pure F (by simp only [Builtin.clear_, q0, q1, Sem.run_bind, run_und hu, Result.andThen_ok, Sem.run_pure]) tupR
      | false =>
        have hne : len ≠ 0 := fun e => by rw [nbT e] at h0; cases h0
        rw [h0] at hx; simp only [cond_false] at hx
        split at hx
        · rename_i cs z hcs hze
          cases hg : (Nat.beq z.cells.length sz && okPart (.d z) && Nat.ble (o + len * sz) cs.length) with
          | false => rw [hg] at hx; simp at hx
          | true =>
            rw [hg] at hx; simp only [cond_true, Option.some.injEq] at hx; subst hx
            simp only [Bool.and_eq_true] at hg
            obtain ⟨⟨g1, g2⟩, g3⟩ := hg
            have g1 := nbE g1
            have g3 := Nat.le_of_ble_eq_true g3
            obtain ⟨zv, hzv, hzo⟩ := run_zeroValue hze w
            have hzd : DR κ w.heap z zv := ofVal_DR hzo
            have hzs : zv.cells.size = sz := by have := hzd.cells.1; omega
            obtain ⟨b, o', capv, c, cty, fz, rfl, h1, h2, h3, h4, h5, h6, h7, h8, h9, h10⟩ := sl_cells F hcs r
            have ho : o' = o := by rcases h6 with h6 | h6; exact h6; omega
            subst ho
            have hZs : (Builtin.zeroCells zv.cells len).size = len * sz := by simp [Builtin.zeroCells, hzs]
            have hZ := zero_cells (κ := κ) (φ := φ) (O := s.O) (B := Builtin.zeroCells zv.cells len) (n := len) hzd g2 (fun k hk => zeroCells_at _ _ _ hk) (by rw [hZs, hzs]; exact Nat.le_refl _)
            have hrl : (repL len (z.cells.map .d)).length = len * sz := by rw [repL_length]; simp [g1]
            have hone : ∀ v ∈ (Builtin.zeroCells zv.cells len).toList, v.oneCell = true := fun v hv => by
              obtain ⟨j, hj⟩ := List.mem_iff_getElem?.1 hv
              have hlt := (List.getElem?_eq_some_iff.1 hj).1
              have hlt2 : j < (repL len (z.cells.map .d)).length := by simp only [Array.length_toList] at hlt; omega
              exact (hZ.2 j _ v (List.getElem?_eq_getElem hlt2) (by simpa using hj)).2
            obtain ⟨c', ty', fz', e1, e2, e3, e4, e5, e6⟩ := cells_store F hcs h1 (o := o') (ys := repL len (z.cells.map .d)) (vs := (Builtin.zeroCells zv.cells len).toList) (by omega) (by simp only [Array.length_toList]; omega)
              (fun j x' v' hx' hv' => hZ.2 j x' v' hx' (by simpa using hv')) hone
            have hst := run_storeCells_any (P := P) b o' ty' fz' (Builtin.zeroCells zv.cells len).toList 0 c' w e1 e2 (by simpa using e3) hone
            refine ⟨.tuple #[], _, κ, φ, ?_, e4, .d (.tup (vs := #[]) rfl (by simp)), e6, e5.kp⟩
            have hz' : ∀ k, len = k + 1 → (Builtin.clear_ #[t] ty #[.slice (some ⟨b, o', none⟩) (k + 1) capv]).run P w = ((storeCells ⟨b, o', none⟩ (Builtin.zeroCells zv.cells (k + 1)).toList 0).run P w).andThen fun _ w => .ok (.tuple #[]) w := by
              intro k _
              simp only [Builtin.clear_, q0, q1, Sem.run_bind, run_und hu, Result.andThen_ok, hzv, Sem.run_pure]
            obtain ⟨k, rfl⟩ : ∃ k, len = k + 1 := ⟨len - 1, by omega⟩
            rw [hz' k rfl, hst]
            simp
        · simp at hx
    · simp at hx
  · simp at hx

def exMakeSliceR (E : Env) (O : Tab) (sl t : Nat) (len cap : RV) : Option Res :=
  match E.und t, len, cap with
  | some (.slice e), .d (.int _ n), .d (.int _ m) => match O sl, E.size e, E.bytes e, E.zero e with
    | none, some z, some by_, some x => bif Nat.ble 1 by_ && Nat.beq x.cells.length z && okPart (.d x) then
        some { val := .sl sl z 0 n.toNat (some m.toNat), upd := [(sl, .rar e (repL m.toNat (x.cells.map .d)))], conds := [decide (0 ≤ n ∧ n ≤ m), decide ((by_ : Int) * m ≤ 2 ^ 38)] } else none
    | _, _, _, _ => none
  | _, _, _ => none

theorem makeSlice_okR {κ : Kap} {φ : Phi} {w : World} {s : SSt} {a : Act} (F : FRel κ φ w s a) {sl t : Nat} {x y : RV} {v u : Value} {res : Res}
    (hx : exMakeSliceR (Env.of P) s.O sl t x y = some res) (hc : ∀ b ∈ res.conds, b = true) (r : RVR κ φ s.O w.heap x v) (r2 : RVR κ φ s.O w.heap y u) :
    Out P κ φ w s a res.val res.upd (Instr.makeSlice t v u) := by
  unfold exMakeSliceR at hx
  split at hx
  · rename_i e k n k' m hu
    split at hx
    · rename_i z by_ q hO hz hby hze
      cases hg : (Nat.ble 1 by_ && Nat.beq q.cells.length z && okPart (.d q)) with
      | false => rw [hg] at hx; simp at hx
      | true =>
        rw [hg] at hx; simp only [cond_true, Option.some.injEq] at hx; subst hx
        simp only [Bool.and_eq_true] at hg
        obtain ⟨⟨g2, g3⟩, g4⟩ := hg
        have g2 := Nat.le_of_ble_eq_true g2
        have g3 := nbE g3
        have c1 : 0 ≤ n ∧ n ≤ m := by simpa using hc (decide (0 ≤ n ∧ n ≤ m)) (by simp)
        have c2 : (by_ : Int) * m ≤ 2 ^ 38 := of_decide_eq_true (hc (decide ((by_ : Int) * m ≤ 2 ^ 38)) (by simp))
        have p38 : (2 : Int) ^ 38 = 274877906944 := by decide
        have p62 : (2 : Int) ^ 62 = 4611686018427387904 := by decide
        have p48 : (2 : Int) ^ 48 = 281474976710656 := by decide
        have hm : m ≤ (by_ : Int) * m := by
          have := Int.mul_le_mul_of_nonneg_right (show (1 : Int) ≤ (by_ : Int) by omega) (show 0 ≤ m by omega)
          simpa using this
        cases r with
        | d hr =>
        cases r2 with
        | d hr2 =>
        cases hr; cases hr2
        obtain ⟨ti, hti, htib⟩ := run_typeInfo_bytes hby w
        obtain ⟨zv, hzv, hzo⟩ := run_zeroValue hze w
        have hzd : DR κ w.heap q zv := ofVal_DR hzo
        obtain ⟨zc1, zc2⟩ := hzd.cells
        have hzs : zv.cells.size = z := by omega
        have hB : ((Array.range (m.toNat * z)).map (zv.cells[· % zv.cells.size]!)).size = m.toNat * z := by simp
        have hrun : ∃ B : Array Value, B.size = m.toNat * z ∧ (∀ k, k < m.toNat * z → B[k]? = zv.cells[k % z]?) ∧ (Instr.makeSlice t (.int k n) (.int k' m)).run P w = .ok (.slice (some ⟨w.heap.size, 0, none⟩) n.toNat m.toNat) { w with heap := w.heap.push (.cells B e (0, 0)) } := by
          have w1 : IntKind.i64.wrap n = n := wrap_small (by omega) (by omega)
          have w2 : IntKind.i64.wrap m = m := wrap_small (by omega) (by omega)
          have hlt : ¬ ((by_ : Int) * m > 2 ^ 48) := by omega
          have hcond : ((decide (m < 0) || decide ((by_ : Int) * m > 2 ^ 48)) || decide (n < 0) || decide (n > m)) = false := by simp; omega
          by_cases h0 : m.toNat * z = 0
          · refine ⟨(Array.range (m.toNat * z)).map ((#[] : Array Value)[· % (#[] : Array Value).size]!), by simp, fun k hk => by omega, ?_⟩
            simp only [Instr.makeSlice, Sem.run_bind, run_und hu, Result.andThen_ok, asInt, asIntOf, Sem.run_pure, hti, htib, w1, w2]
            rw [if_neg (by simpa using hcond)]
            simp only [Sem.run_bind, Result.andThen_ok, run_askRoom, run_sizeOf' hz]
            rw [if_pos h0]
            simp [newRow]
          · refine ⟨(Array.range (m.toNat * z)).map (zv.cells[· % zv.cells.size]!), hB, fun k hk => ?_, ?_⟩
            · have hz0 : 0 < z := by
                rcases Nat.eq_zero_or_pos z with e | e
                · rw [e] at h0; omega
                · exact e
              have hlt : k % z < zv.cells.size := by rw [hzs]; exact Nat.mod_lt _ hz0
              have e1 : ((Array.range (m.toNat * z)).map (zv.cells[· % zv.cells.size]!))[k]? = some (zv.cells[k % z]!) := by simp [hk, hzs]
              rw [e1, getElem!_pos zv.cells (k % z) hlt, getElem?_pos zv.cells (k % z) hlt]
            · simp only [Instr.makeSlice, Sem.run_bind, run_und hu, Result.andThen_ok, asInt, asIntOf, Sem.run_pure, hti, htib, w1, w2]
              rw [if_neg (by simpa using hcond)]
              simp only [Sem.run_bind, Result.andThen_ok, run_askRoom, run_sizeOf' hz]
              rw [if_neg h0]
              simp [newRow, hzv]
        obtain ⟨B, hB1, hB2, hrun⟩ := hrun
        have hnm : n.toNat ≤ m.toNat := by omega
        have hle := Nat.mul_le_mul_right z hnm
        obtain ⟨q1, q2, q3⟩ := F.alloc (i := sl) (p := .rar e (repL m.toNat (q.cells.map .d))) (o := .cells B e (0, 0)) (w' := { w with heap := w.heap.push (.cells B e (0, 0)) }) rfl hO
          (fun M => ⟨_, _, _, setP_same _ _ _, setK_same _ _ _, heap_push_eq _ _, fzR00 _ _, RL.mono M (zero_cells hzd g4 (fun k hk => by rw [hzs] at hk ⊢; exact hB2 k hk) (by rw [hzs, hB1]; exact Nat.le_refl _))⟩)
        refine ⟨_, _, _, setP φ sl (.at w.heap.size), hrun, q1, ?_, q3, q2.kp⟩
        exact .sl (setP_same _ _ _) (heap_push_eq _ _) (.inl rfl) (by rw [hB1]; omega) hnm (fun k e => by injection e) (fun e => by cases e)
    · simp at hx
  · simp at hx

def exConvR (E : Env) (O : Tab) (sl src dst : Nat) (x : RV) : Option Res :=
  match E.und src, E.und dst, x with
  | some _, some (.slice e), .d (.str s) => bif isU8 (E.und e) && Gl.mark e then
      match O sl, E.size e with
      | none, some 1 => some { val := .sl sl 1 0 s.length none, upd := [(sl, .rar e (u8r s))] }
      | _, _ => none
    else none
  | some (.slice e), some .string, .sl i sz o len _ => bif isU8 (E.und e) && Nat.beq sz 1 then
      match cellsAt O i with
      | some cs => bif Nat.ble (o + len) cs.length then match allD ((cs.drop o).take len) with
        | some els => bif els.all DV.isByte then some { val := .d (.str (els.map DV.byte)) } else none
        | none => none
        else bif Nat.beq len 0 then some { val := .d (.str []) } else none
      | none => none
    else none
  | some (.slice e), some .string, .d (.lst 0 [] true) => bif isU8 (E.und e) then some { val := .d (.str []) } else none
  | _, _, _ => none

theorem isU8_of {d : Option TypeDesc} (h : isU8 d = true) : d = some (.int .u8) := by
  unfold isU8 at h; split at h
  · rfl
  · simp at h

theorem conv_okR {κ : Kap} {φ : Phi} {w : World} {s : SSt} {a : Act} (F : FRel κ φ w s a) {sl src dst : Nat} {x : RV} {v : Value} {res : Res}
    (hx : exConvR (Env.of P) s.O sl src dst x = some res) (r : RVR κ φ s.O w.heap x v) : Out P κ φ w s a res.val res.upd (convert src dst v) := by
  unfold exConvR at hx
  split at hx
  · rename_i ds e str hs hd
    cases hu8m : (isU8 ((Env.of P).und e) && Gl.mark e) with
    | false => rw [hu8m] at hx; simp at hx
    | true =>
      rw [hu8m] at hx; simp only [cond_true] at hx
      simp only [Bool.and_eq_true] at hu8m
      obtain ⟨hu8, hmk⟩ := hu8m
      have hue := isU8_of hu8
      split at hx
      · rename_i hO hz
        injection hx with hx; subst hx
        cases r with
        | d hr =>
        cases hr
        have hsz : (⟨str.toArray⟩ : ByteArray).size = str.length := by simp [ByteArray.size]
        generalize hcap : str.length + w.tape w.drawn (.appendCap str.length 0 e) % (2 ^ 63 - str.length) = cap
        have hcl : str.length ≤ cap := by omega
        have hC : (str.toArray.map (fun b => Value.int .u8 b.toNat) ++ Array.replicate (cap - str.length) (Value.int .u8 0)).size = cap := by simp; omega
        generalize hCd : str.toArray.map (fun b => Value.int .u8 b.toNat) ++ Array.replicate (cap - str.length) (Value.int .u8 0) = C at hC
        have hrun : (convert src dst (.string ⟨str.toArray⟩)).run P w = .ok (.slice (some ⟨w.heap.size, 0, none⟩) str.length cap) { w with drawn := w.drawn + 1, heap := w.heap.push (.cells C e (cap, cap + 1)) } := by
          simp only [convert, Sem.run_bind, run_und hs, run_und hd, run_und hue, Result.andThen_ok, Conv.stringToBytes, hsz, run_choose, Question.forced, Question.cut, Bool.false_eq_true, if_false, hcap, hCd,
            newRow, run_newObj, Sem.run_pure, markStringish, run_shape, World.shape?, heap_push_eq, hC, run_freeze, World.freeze]
          rw [if_neg (by omega)]
          congr 2
          apply Array.ext_getElem?
          intro j
          rw [Array.getElem?_modify]
          by_cases e : w.heap.size = j
          · subst e; simp
          · rw [if_neg e]
            rcases Nat.lt_or_ge j w.heap.size with h | h
            · rw [heap_push_lt h, heap_push_lt h]
            · rw [Array.getElem?_eq_none (by simp; omega), Array.getElem?_eq_none (by simp; omega)]
        have hul : (u8r str).length = str.length := by simp [u8r]
        obtain ⟨q1, q2, q3⟩ := F.alloc (i := sl) (p := .rar e (u8r str)) (o := .cells C e (cap, cap + 1)) (w' := { w with drawn := w.drawn + 1, heap := w.heap.push (.cells C e (cap, cap + 1)) }) rfl hO
          (fun M => ⟨_, _, _, setP_same _ _ _, setK_same _ _ _, heap_push_eq _ _, ⟨fun o ho h => by rw [hC] at ho; omega, fun e => by rw [hmk] at e; cases e⟩, by rw [hC, hul]; omega, fun j x v hx hv => by
            obtain ⟨b, hb, rfl⟩ := u8r_get str j x hx
            have hlt := (List.getElem?_eq_some_iff.1 hb).1
            rw [← hCd, Nat.zero_add, Array.getElem?_append_left (by simp; omega)] at hv
            simp [hb] at hv
            subst hv; exact ⟨.d (.int _ _), rfl⟩⟩)
        refine ⟨_, _, _, setP φ sl (.at w.heap.size), hrun, q1, ?_, q3, q2.kp⟩
        exact .sl (setP_same _ _ _) (heap_push_eq _ _) (.inl rfl) (by rw [hC]; omega) hcl (fun k e => by cases e) (fun _ n hn => by
          have : PObj.len? (setT s.O sl (some (.rar e (u8r str))) sl) = some n := hn
          rw [setT_same] at this; simp [PObj.len?, u8r] at this; omega)
      · simp at hx
  · rename_i e i sz o len cap hs hd
    cases hg : (isU8 ((Env.of P).und e) && Nat.beq sz 1) with
    | false => rw [hg] at hx; simp at hx
    | true =>
      rw [hg] at hx; simp only [cond_true] at hx
      simp only [Bool.and_eq_true] at hg
      have hue := isU8_of hg.1
      have := nbE hg.2; subst this
      split at hx
      · rename_i cs hcs
        obtain ⟨b, o', capv, c, cty, fz, rfl, h1, h2, h3, h4, h5, h6, h7, h8, h9, h10⟩ := sl_cells F hcs r
        have hconv : (convert src dst (.slice (some ⟨b, o', none⟩) len capv)).run P w = (Conv.bytesToString (.slice (some ⟨b, o', none⟩) len capv)).run P w := by
          simp only [convert, Sem.run_bind, run_und hs, run_und hd, run_und hue, Result.andThen_ok]
        have hzero : len = 0 → Out P κ φ w s a (.d (.str [])) [] (convert src dst (.slice (some ⟨b, o', none⟩) len capv)) := by
          intro h0; subst h0
          refine Out.pure F (v := .string ⟨([] : List UInt8).toArray⟩) ?_ (.d (.str _))
          rw [hconv]; simp [Conv.bytesToString, loadCells, loadCellsFrom]; rfl
        cases hb : Nat.ble (o + len) cs.length with
        | false =>
          rw [hb] at hx; simp only [cond_false] at hx
          cases h0 : Nat.beq len 0 with
          | false => rw [h0] at hx; simp at hx
          | true => rw [h0] at hx; simp only [cond_true, Option.some.injEq] at hx; subst hx; exact hzero (nbE h0)
        | true =>
          rw [hb] at hx; simp only [cond_true] at hx
          have hb := Nat.le_of_ble_eq_true hb
          split at hx
          · rename_i els hall
            cases hby : els.all DV.isByte with
            | false => rw [hby] at hx; simp at hx
            | true =>
              rw [hby] at hx; simp only [cond_true, Option.some.injEq] at hx; subst hx
              have hel := allD_spec _ _ hall
              have hcl := h5.1
              have hlen : ((cs.drop o).take len).length = len := by simp; omega
              have hell : els.length = len := by rw [hel] at hlen; simpa using hlen
              by_cases h0 : len = 0
              · have : els = [] := List.eq_nil_of_length_eq_zero (by omega)
                subst this; exact hzero h0
              · have ho : o' = o := by rcases h6 with h6 | h6; exact h6; omega
                subst ho
                refine Out.pure F (v := .string ⟨(els.map DV.byte).toArray⟩) ?_ (.d (.str _))
                rw [hconv]
                obtain ⟨p1, p2, p3⟩ := h5.part (o := o') (n := len) hb
                simp only [Conv.bytesToString, Sem.run_bind, run_loadCells_at h3 (show o' + len ≤ c.size by omega), Result.andThen_ok]
                rw [← Array.forIn_toList]
                have hll : (c.extract o' (o' + len)).toList.length = els.length := by rw [Array.length_toList, p2, hell]
                rw [bytes_loop (P := P) _ (fun _ _ => rfl) (c.extract o' (o' + len)).toList els ByteArray.empty w hll (fun i x v hx hv => by
                  obtain ⟨n, rfl⟩ := byte_of (List.all_eq_true.1 hby x (List.mem_iff_getElem?.2 ⟨i, hx⟩))
                  have hrx : ((cs.drop o').take len)[i]? = some (.d (.int .u8 n)) := by rw [hel]; simp [hx]
                  have := (p1.2 i _ v hrx (by rw [Array.getElem?_toList] at hv; rw [Nat.zero_add]; exact hv)).1
                  cases this with
                  | d hr => cases hr; exact ⟨n, rfl, rfl⟩)]
                simp only [Result.andThen_ok, Sem.run_pure]
                congr 3
                simp
          · simp at hx
      · simp at hx
  · rename_i e hs hd
    cases hg : isU8 ((Env.of P).und e) with
    | false => rw [hg] at hx; simp at hx
    | true =>
      rw [hg] at hx; simp only [cond_true, Option.some.injEq] at hx; subst hx
      have hue := isU8_of hg
      have hv : v = .slice none 0 0 := by
        cases r with
        | d hr =>
        cases hr with
        | lst0 hf => have := hf rfl; rw [this.1, this.2 rfl]
        | lst _ _ hf _ _ _ _ => have := (hf rfl).2; omega
      subst hv
      refine Out.pure F (v := .string ⟨([] : List UInt8).toArray⟩) ?_ (.d (.str _))
      simp only [convert, Sem.run_bind, run_und hs, run_und hd, run_und hue, Result.andThen_ok, Conv.bytesToString, Sem.run_pure]
      rfl
  · simp at hx

theorem makeFunc_okR {κ : Kap} {φ : Phi} {w : World} {s : SSt} {a : Act} (F : FRel κ φ w s a) {fn : Fn} {fs cs : List RV} {f c : Array Value} (hl1 : f.size = fs.length) (hl2 : c.size = cs.length)
    (h1 : ∀ (i : Nat) (x : RV) (v : Value), fs[i]? = some x → f[i]? = some v → RVR κ φ s.O w.heap x v) (h2 : ∀ (i : Nat) (x : RV) (v : Value), cs[i]? = some x → c[i]? = some v → RVR κ φ s.O w.heap x v) :
    Out P κ φ w s a (.clo fn fs cs) [] (Instr.makeFunc fn f c) :=
  ⟨.func fn f c, w, κ, φ, rfl, F, .clo hl1 hl2 h1 h2, Fr.refl _ _, Kp.refl _ _⟩
end Go.Am
