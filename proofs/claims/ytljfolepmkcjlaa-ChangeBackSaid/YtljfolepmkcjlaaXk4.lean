/-
  Texts that the claim leans on, one behind the other, part 4.
-/
import Derived.Test.YtljfolepmkcjlaaXk3
import Derived.Laws.StructEq
import Derived.MapKept
import Derived.Scope

/-
  The abstract machine, second part: appending, calls, runs of regions, drawn orders.
-/
/-
  The abstract machine: each operation is sound (append, make).
-/
namespace Go.Am
variable {P : Program}

theorem RowOf.mono {κ κ' : Kap} {h h' : Heap} (hm : ∀ b, κ b = .imm → κ' b = .imm ∧ h'[b]? = h[b]?) {X : Array Value} {sz : Nat} {els : List DV} (r : RowOf κ h X sz els) : RowOf κ' h' X sz els :=
  ⟨r.1, r.2.1, r.2.2.1, fun i x j y v hx hy hv => (r.2.2.2 i x j y v hx hy hv).mono hm⟩

/-- Two rows, one behind the other, ahead of whatever. -/
theorem EL_two {κ : Kap} {h : Heap} {c : Array Value} {sz : Nat} {els xs : List DV} {X : Array Value} (he : EL κ h c 0 sz els) (hX : RowOf κ h X sz xs)
    (hs : (els.length + xs.length) * sz ≤ c.size) : EL κ h (splA c (els.length * sz) X.toList) 0 sz (els ++ xs) := by
  obtain ⟨e1, e2, e3⟩ := he
  obtain ⟨x1, x2, x3, x4⟩ := hX
  have hb : els.length * sz + X.toList.length ≤ c.size := by rw [Nat.add_mul] at hs; simp; omega
  refine ⟨fun x hx => ?_, by rw [splA_size _ _ _ hb]; simpa using hs, fun i x j y v hx hy hv => ?_⟩
  · rcases List.mem_append.1 hx with hx | hx
    · exact e1 x hx
    · exact x3 x hx
  · rw [splA_get _ _ _ hb] at hv
    simp only [Nat.zero_add] at hv
    by_cases hi : i < els.length
    · rw [List.getElem?_append_left hi] at hx
      have hj : j < sz := by have := (List.getElem?_eq_some_iff.1 hy).1; have := (e1 x (List.mem_iff_getElem?.2 ⟨i, hx⟩)).1; omega
      have := Nat.mul_le_mul_right sz (show i + 1 ≤ els.length from hi)
      rw [Nat.add_mul] at this
      rw [if_pos (by omega)] at hv
      exact e3 i x j y v hx hy (by simpa using hv)
    · rw [List.getElem?_append_right (by omega)] at hx
      have hj : j < sz := by have := (List.getElem?_eq_some_iff.1 hy).1; have := (x3 x (List.mem_iff_getElem?.2 ⟨_, hx⟩)).1; omega
      have hlt := (List.getElem?_eq_some_iff.1 hx).1
      have hle := Nat.mul_le_mul_right sz (show (i - els.length) + 1 ≤ xs.length from hlt)
      have hexp : i * sz = els.length * sz + (i - els.length) * sz := by rw [← Nat.add_mul]; congr 1; omega
      rw [Nat.add_mul] at hle
      rw [if_neg (by omega), if_pos (by simp; omega)] at hv
      refine x4 (i - els.length) x j y v hx hy ?_
      rw [Array.getElem?_toList] at hv
      rw [← hv]; congr 1; omega

theorem EL_rows {κ : Kap} {h : Heap} {sz : Nat} {els xs : List DV} {X Y R : Array Value} (hY : RowOf κ h Y sz els) (hX : RowOf κ h X sz xs) :
    EL κ h (Y ++ X ++ R) 0 sz (els ++ xs) := by
  obtain ⟨y1, y2, y3, y4⟩ := hY
  obtain ⟨x1, x2, x3, x4⟩ := hX
  refine ⟨fun x hx => ?_, by simp [y1, x1, Nat.add_mul], fun i x j y v hx hy hv => ?_⟩
  · rcases List.mem_append.1 hx with hx | hx
    · exact y3 x hx
    · exact x3 x hx
  · simp only [Nat.zero_add] at hv
    by_cases hi : i < els.length
    · rw [List.getElem?_append_left hi] at hx
      have hj : j < sz := by have := (List.getElem?_eq_some_iff.1 hy).1; have := (y3 x (List.mem_iff_getElem?.2 ⟨i, hx⟩)).1; omega
      have := Nat.mul_le_mul_right sz (show i + 1 ≤ els.length from hi)
      rw [Nat.add_mul] at this
      rw [Array.append_assoc, Array.getElem?_append_left (by omega)] at hv
      exact y4 i x j y v hx hy hv
    · rw [List.getElem?_append_right (by omega)] at hx
      have hj : j < sz := by have := (List.getElem?_eq_some_iff.1 hy).1; have := (x3 x (List.mem_iff_getElem?.2 ⟨_, hx⟩)).1; omega
      have hlt := (List.getElem?_eq_some_iff.1 hx).1
      have hle := Nat.mul_le_mul_right sz (show (i - els.length) + 1 ≤ xs.length from hlt)
      have hexp : i * sz = els.length * sz + (i - els.length) * sz := by rw [← Nat.add_mul]; congr 1; omega
      rw [Nat.add_mul] at hle
      rw [Array.append_assoc, Array.getElem?_append_right (by omega), Array.getElem?_append_left (by omega)] at hv
      refine x4 (i - els.length) x j y v hx hy ?_
      rw [← hv]; congr 1; omega

theorem growBy_le (n : Nat) : ∀ (k c : Nat), c ≤ n → Builtin.growBy n k c ≤ 2 * n + 768
  | 0, c, h => by simp [Builtin.growBy]; omega
  | k + 1, c, h => by
    simp only [Builtin.growBy]
    split
    · omega
    · rename_i hlt
      by_cases h2 : c + (c + 768) / 4 ≤ n
      · exact growBy_le n k _ h2
      · have : Builtin.growBy n k (c + (c + 768) / 4) = c + (c + 768) / 4 := by
          cases k with
          | zero => rfl
          | succ k => simp only [Builtin.growBy]; rw [if_pos (by omega)]
        rw [this]; omega

theorem nextcap_le (need cap : Nat) (h : cap < need) : Builtin.nextslicecap need cap ≤ 2 * need + 768 := by
  unfold Builtin.nextslicecap
  split
  · omega
  · split
    · omega
    · exact growBy_le need 4 cap (by omega)

theorem bytes_of {t z : Nat} (h : (Env.of P).bytes t = some z) : ∃ i, P.info? t = some i ∧ i.bytes = z := by
  simp only [Env.of] at h
  cases e : P.info? t with
  | none => rw [e] at h; simp at h
  | some i => rw [e] at h; exact ⟨i, rfl, by simpa using h⟩

theorem run_typeInfo_bytes {t z : Nat} (h : (Env.of P).bytes t = some z) (w : World) : ∃ i, (typeInfo t).run P w = .ok i w ∧ i.bytes = z := by
  obtain ⟨i, hi, rfl⟩ := bytes_of h
  exact ⟨i, by simp [typeInfo, hi], rfl⟩

theorem pow38 : (2 : Nat) ^ 38 = 274877906944 := by decide
theorem pow48 : (2 : Nat) ^ 48 = 281474976710656 := by decide
theorem maxI : IntKind.i64.max = 9223372036854775807 := by decide

section
variable {w : World} {e z by_ t t2 len n : Nat} {base : Option Addr} {cap : Nat} {vx : Value} {X : Array Value} {dt2 : TypeDesc}
  (hu : (Env.of P).und t = some (.slice e)) (hu2 : (Env.of P).und t2 = some dt2) (hni : ∀ k, dt2 ≠ .int k) (hz : (Env.of P).size e = some z)
  (hl : (Builtin.lenOf vx).run P w = .ok n w) (hX : (Builtin.firstCells z n vx).run P w = .ok X w)
include hu hu2 hni hz hl hX

theorem run_append_none (hfit : len + n ≤ cap) (hb : base = none ∨ n = 0 ∧ X = #[]) :
    (Builtin.append_ #[t, t2] t #[.slice base len cap, vx]).run P w = .ok (.slice base (len + n) cap) w := by
  simp only [Builtin.append_]
  rw [show (#[t, t2] : Array TypeId)[0]? = some t from rfl, show (#[t, t2] : Array TypeId)[1]? = some t2 from rfl,
    show (#[Value.slice base len cap, vx] : Array Value)[0]? = some (.slice base len cap) from rfl, show (#[Value.slice base len cap, vx] : Array Value)[1]? = some vx from rfl]
  have _ := hni
  have _ := hX
  simp only [Sem.run_bind, run_und hu, Result.andThen_ok, run_sizeOf' hz, run_und hu2, Sem.run_pure, Bool.false_eq_true, if_false, hl]
  rw [if_pos hfit]
  simp only [Bool.not_false, if_true, Sem.run_bind, hX, Result.andThen_ok]
  rcases hb with rfl | ⟨_, rfl⟩
  · simp
  · cases base <;> simp [storeCells]

theorem run_append_fit {b : Nat} {c : Array Value} {ty : TypeId} {fz : Nat × Nat} (hfit : len + n ≤ cap) (hb : w.heap[b]? = some (.cells c ty fz)) (hf : FzOk fz c.size)
    (hs : len * z + X.size ≤ c.size) (h1 : ∀ v ∈ X, v.oneCell = true) :
    (Builtin.append_ #[t, t2] t #[.slice (some ⟨b, 0, none⟩) len cap, vx]).run P w = .ok (.slice (some ⟨b, 0, none⟩) (len + n) cap) (World.row w b (.cells (splA c (len * z) X.toList) ty fz)) := by
  simp only [Builtin.append_]
  rw [show (#[t, t2] : Array TypeId)[0]? = some t from rfl, show (#[t, t2] : Array TypeId)[1]? = some t2 from rfl,
    show (#[Value.slice (some ⟨b, 0, none⟩) len cap, vx] : Array Value)[0]? = some (.slice (some ⟨b, 0, none⟩) len cap) from rfl, show (#[Value.slice (some ⟨b, 0, none⟩) len cap, vx] : Array Value)[1]? = some vx from rfl]
  have _ := hni
  have _ := hX
  simp only [Sem.run_bind, run_und hu, Result.andThen_ok, run_sizeOf' hz, run_und hu2, Sem.run_pure, Bool.false_eq_true, if_false, hl]
  rw [if_pos hfit]
  have := run_storeCells_any (P := P) b (len * z) ty fz X.toList 0 c w hb hf (by simpa using hs) (by simpa using h1)
  simp only [Bool.not_false, if_true, Sem.run_bind, hX, Result.andThen_ok, add_at, Nat.zero_add]
  rw [this]
  simp

theorem run_append_grow {zv : Value} {Y : Array Value} (hby : (Env.of P).bytes e = some by_) (hb1 : 1 ≤ by_) (hroom : (len + n) * by_ ≤ 2 ^ 38) (hfit : ¬ len + n ≤ cap)
    (hzv : (zeroValue e).run P { w with drawn := w.drawn + 1 } = .ok zv { w with drawn := w.drawn + 1 })
    (hX' : (Builtin.firstCells z n vx).run P { w with drawn := w.drawn + 1 } = .ok X { w with drawn := w.drawn + 1 })
    (hY : (Builtin.firstCells z len (.slice base len cap)).run P { w with drawn := w.drawn + 1 } = .ok Y { w with drawn := w.drawn + 1 }) :
    ∃ newCap R, len + n ≤ newCap ∧ R.size = (newCap - (len + n)) * zv.cells.size ∧ (Builtin.append_ #[t, t2] t #[.slice base len cap, vx]).run P w =
      .ok (.slice (some ⟨w.heap.size, 0, none⟩) (len + n) newCap) { w with drawn := w.drawn + 1, heap := w.heap.push (.cells (Y ++ X ++ R) e (0, 0)) } := by
  obtain ⟨ti, hti, htib⟩ := run_typeInfo_bytes hby w
  obtain ⟨ti', hti', htib'⟩ := run_typeInfo_bytes hby { w with drawn := w.drawn + 1 }
  have hle : len + n ≤ (len + n) * by_ := Nat.le_mul_of_pos_right _ hb1
  have p38 := pow38
  have hmaxl : ¬ (((len + n : Nat) : Int) > IntKind.i64.max) := by rw [maxI]; omega
  have hnext := nextcap_le (len + n) cap (by omega)
  have hnb : ¬ (Builtin.nextslicecap (len + n) cap * by_ > 2 ^ 48) := by
    have h4 := Nat.mul_le_mul_right by_ hnext
    have h5 : (2 * (len + n) + 768) * by_ ≤ 770 * ((len + n) * by_) := by
      have : 2 * (len + n) + 768 ≤ 770 * (len + n) := by omega
      have := Nat.mul_le_mul_right by_ this
      rw [Nat.mul_assoc 770] at this; exact this
    rw [pow48]; omega
  refine ⟨(len + n) + w.tape w.drawn (.appendCap (len + n) cap e) % (2 ^ 63 - (len + n)), Builtin.zeroCells zv.cells ((len + n) + w.tape w.drawn (.appendCap (len + n) cap e) % (2 ^ 63 - (len + n)) - (len + n)), by omega, by simp [Builtin.zeroCells], ?_⟩
  simp only [Builtin.append_]
  rw [show (#[t, t2] : Array TypeId)[0]? = some t from rfl, show (#[t, t2] : Array TypeId)[1]? = some t2 from rfl,
    show (#[Value.slice base len cap, vx] : Array Value)[0]? = some (.slice base len cap) from rfl, show (#[Value.slice base len cap, vx] : Array Value)[1]? = some vx from rfl]
  have _ := hni
  have _ := hX
  simp only [Sem.run_bind, run_und hu, Result.andThen_ok, run_sizeOf' hz, run_und hu2, Sem.run_pure, Bool.false_eq_true, if_false, hl]
  rw [if_neg hfit]
  simp only [Sem.run_bind, hti, Result.andThen_ok, htib]
  rw [if_neg (fun h => hmaxl h.1)]
  simp only [Sem.run_bind, hti, Result.andThen_ok, htib]
  rw [if_neg hnb]
  simp only [Sem.run_bind, run_choose, Question.forced, Question.cut, Bool.false_eq_true, if_false, Result.andThen_ok, hti', run_askRoom, hY, hX', Bool.not_false, if_true, hzv, newRow, run_newObj, Sem.run_pure]
end

theorem zeroOk_of {e z : Nat} (h : zeroOk (Env.of P) e z = true) (w : World) : ∃ v, (zeroValue e).run P w = .ok v w ∧ v.cells.size = z := by
  unfold zeroOk at h
  cases hz : (Env.of P).zero e with
  | none => rw [hz] at h; simp at h
  | some x =>
    rw [hz] at h
    obtain ⟨v, h1, h2⟩ := run_zeroValue hz w
    exact ⟨v, h1, by have := (ofVal_DR (κ := fun _ => .oth) (h := #[]) h2).cells.1; have := nbE h; omega⟩

/-- A slice of one's own, whose object is gone already, or a slice without room: what an append makes of it. -/
theorem append_core {κ : Kap} {φ : Phi} {w : World} {s : SSt} {a : Act} (F : FRel κ φ w s a) {d e z by_ t t2 : Nat} {els xs : List DV} {base : Option Addr} {cap : Nat} {vx : Value} {X : Array Value} {dt2 : TypeDesc}
    (hd : s.O d = none) (hu : (Env.of P).und t = some (.slice e)) (hu2 : (Env.of P).und t2 = some dt2) (hni : ∀ k, dt2 ≠ .int k) (hz : (Env.of P).size e = some z) (hby : (Env.of P).bytes e = some by_)
    (hze : zeroOk (Env.of P) e z = true) (h1 : 1 ≤ z) (hb1 : 1 ≤ by_)
    (hroom : (els.length + xs.length) * by_ ≤ 2 ^ 38) (hsl : SlOk κ w.heap (.slice base els.length cap) z els)
    (hl : (Builtin.lenOf vx).run P w = .ok xs.length w) (hX : ∀ w' : World, w'.heap = w.heap → (Builtin.firstCells z xs.length vx).run P w' = .ok X w') (hrow : RowOf κ w.heap X z xs)
    (hmode : (cap = els.length ∧ (els = [] ∨ xs ≠ [])) ∨ ∃ b c fz i, base = some ⟨b, 0, none⟩ ∧ κ b = .own i ∧ i ≠ d ∧ s.O i = some .gone ∧ w.heap[b]? = some (.cells c e fz) ∧ FzOk fz c.size ∧ cap * z ≤ c.size ∧ EL κ w.heap c 0 z els) :
    Out P κ φ w s a (.own d z) [(d, .arr e z (els ++ xs))] (Builtin.append_ #[t, t2] t #[.slice base els.length cap, vx]) := by
  have hun : φ d = .un := by have := F.objs d; rw [hd] at this; exact this
  have hlen : (els ++ xs).length = els.length + xs.length := by simp
  have grow : ¬ els.length + xs.length ≤ cap → Out P κ φ w s a (.own d z) [(d, .arr e z (els ++ xs))] (Builtin.append_ #[t, t2] t #[.slice base els.length cap, vx]) := by
    intro hfit
    obtain ⟨zv, hzv, hzs⟩ := zeroOk_of hze { w with drawn := w.drawn + 1 }
    have hYr : ∃ Y, (Builtin.firstCells z els.length (.slice base els.length cap)).run P { w with drawn := w.drawn + 1 } = .ok Y { w with drawn := w.drawn + 1 } ∧ RowOf κ w.heap Y z els := by
      obtain ⟨base', cap', e1, _, hs⟩ := hsl
      injection e1 with e1 e2 e3; subst e1
      by_cases he : els = []
      · subst he
        refine ⟨#[], ?_, RowOf.nil⟩
        cases base with
        | none => rfl
        | some b => simp [Builtin.firstCells, loadCells, loadCellsFrom]
      · rcases hs with hs | ⟨b, off, cc, ty, fz, rfl, hb, hel, hsz⟩
        · exact absurd hs he
        · exact ⟨_, by simp only [Builtin.firstCells]; exact run_loadCells_at (w := { w with drawn := w.drawn + 1 }) hb hel.2.1, hel.row h1⟩
    obtain ⟨Y, hY, hYrow⟩ := hYr
    obtain ⟨newCap, R, g1, g2, g3⟩ := run_append_grow (len := els.length) (n := xs.length) (cap := cap) (base := base) hu hu2 hni hz hl (hX w rfl) hby hb1 hroom hfit hzv (hX { w with drawn := w.drawn + 1 } rfl) hY
    have hsize : (Y ++ X ++ R).size = newCap * z := by
      simp only [Array.size_append, hYrow.1, hrow.1, g2, hzs]
      rw [← Nat.add_mul, ← Nat.add_mul]; congr 1; omega
    obtain ⟨q1, q2, q3⟩ := F.alloc (i := d) (p := .arr e z (els ++ xs)) (o := .cells (Y ++ X ++ R) e (0, 0)) (w' := { w with drawn := w.drawn + 1, heap := w.heap.push (.cells (Y ++ X ++ R) e (0, 0)) }) rfl hd
      (fun M => .inr ⟨_, _, (0, 0), setP_same _ _ _, setK_same _ _ _, heap_push_eq _ _, fzOk00 _, EL_rows (hYrow.mono M.imm) (hrow.mono M.imm)⟩)
    refine ⟨_, _, _, setP φ d (.at w.heap.size), g3, q1, ?_, q3, q2.kp⟩
    exact .own (setP_same _ _ _) (heap_push_eq _ _) (by rw [hsize]; exact Nat.le_refl _) g1 (fun n hn => by
      have : PObj.len? (setT s.O d (some (.arr e z (els ++ xs))) d) = some n := hn
      rw [setT_same] at this; simp [PObj.len?] at this; omega)
  rcases hmode with ⟨hcap, hor⟩ | ⟨b, c, fz, i, rfl, hκ, hid, hgone, hb, hfz, hcs, hel⟩
  · by_cases hxs : xs = []
    · subst hxs
      have he : els = [] := by rcases hor with h | h; exact h; exact absurd rfl h
      subst he
      simp only [List.length_nil] at hcap; subst hcap
      have hX0 : X = #[] := Array.eq_empty_of_size_eq_zero (by have := hrow.1; simpa using this)
      have hrun := run_append_none (len := 0) (n := 0) (cap := 0) (base := base) hu hu2 hni hz hl (hX w rfl) (Nat.le_refl _) (.inr ⟨rfl, hX0⟩)
      obtain ⟨q1, q2, q3⟩ := F.upd1 (i := d) (p := .arr e z ([] ++ [])) (κ' := κ) (φ' := setP φ d .nil) (w' := w) (Nat.le_refl _) (fun _ h => h) (fun _ _ _ _ h => h) (fun _ _ h => h) (fun _ _ _ _ => rfl)
        (fun j hj => setP_ne _ _ hj) (fun h => absurd hun h) (fun _ c _ fz hc => ⟨c, fz, hc, rfl⟩) (fun h => absurd hun h) F.bnd (fun M => .inl ⟨setP_same _ _ _, rfl⟩)
      exact ⟨_, _, κ, setP φ d .nil, hrun, q1, .ownNil (setP_same _ _ _), q3, q2.kp⟩
    · refine grow ?_
      have : 0 < xs.length := List.length_pos_iff.2 hxs
      omega
  · by_cases hfit : els.length + xs.length ≤ cap
    · have hle := Nat.mul_le_mul_right z hfit
      rw [Nat.add_mul] at hle
      have hXs := hrow.1
      have hrun := run_append_fit (len := els.length) (n := xs.length) (cap := cap) hu hu2 hni hz hl (hX w rfl) hfit hb hfz (by omega) hrow.2.1
      have hsize : (splA c (els.length * z) X.toList).size = c.size := splA_size _ _ _ (by simp; omega)
      obtain ⟨q1, q2, q3⟩ := F.upd1 (i := d) (p := .arr e z (els ++ xs)) (κ' := setK κ b (.own d)) (φ' := setP φ d (.at b)) (w' := World.row w b (.cells (splA c (els.length * z) X.toList) e fz))
        (by simp [World.row]) (fun x hx => by rw [setK_ne _ _ (fun e => by subst e; rw [hκ] at hx; cases hx)]; exact hx)
        (fun x j hj hg hx => by rw [setK_ne _ _ (fun e => by subst e; rw [hκ] at hx; injection hx with hx; subst hx; exact hg hgone)]; exact hx)
        (fun x _ hx => by rw [setK_ne _ _ (fun e => by subst e; rw [hκ] at hx; cases hx)]; exact hx)
        (fun x hx _ hg => row_heap_ne _ _ (fun e => by subst e; exact hg i hκ hgone))
        (fun j hj => setP_ne _ _ hj) (fun h => absurd hun h)
        (fun x c0 ty0 fz0 hc0 => by
          by_cases e : x = b
          · subst e; rw [hb] at hc0; injection hc0 with hc0; injection hc0 with e1 e2 e3; subst e1; subst e2
            exact ⟨_, _, row_heap hb, hsize⟩
          · exact ⟨c0, fz0, by rw [row_heap_ne _ _ e]; exact hc0, rfl⟩)
        (fun h => absurd hun h)
        (fun x hx => by
          simp only [World.row, Array.size_setIfInBounds]
          by_cases e : x = b
          · subst e; exact lt_of_get hb
          · rw [setK_ne _ _ e] at hx; exact F.bnd x hx)
        (fun M => .inr ⟨b, _, fz, setP_same _ _ _, setK_same _ _ _, row_heap hb, by rw [hsize]; exact hfz, EL_two (hel.mono M.imm) (hrow.mono M.imm) (by rw [Nat.add_mul]; omega)⟩)
      refine ⟨_, _, _, setP φ d (.at b), hrun, q1, ?_, q3, q2.kp⟩
      exact .own (setP_same _ _ _) (row_heap hb) (by rw [hsize]; exact hcs) hfit (fun n hn => by
        have : PObj.len? (setT s.O d (some (.arr e z (els ++ xs))) d) = some n := hn
        rw [setT_same] at this; simp [PObj.len?] at this; omega)
    · exact grow hfit


theorem append_ok {κ : Kap} {φ : Phi} {w : World} {s : SSt} {a : Act} (F : FRel κ φ w s a) {sl t t2 : Nat} {x y : RV} {v vx : Value} {dt2 : TypeDesc} {res : Res}
    (hx : exAppend (Env.of P) s.O sl t x y = some res) (hc : ∀ b ∈ res.conds, b = true) (hu2 : (Env.of P).und t2 = some dt2) (hni : ∀ k, dt2 ≠ .int k)
    (r : RVR κ φ s.O w.heap x v) (r2 : RVR κ φ s.O w.heap y vx) : Out P κ φ w s a res.val res.upd (Builtin.append_ #[t, t2] t #[v, vx]) := by
  unfold exAppend at hx
  cases hu : (Env.of P).und t with
  | none => rw [hu] at hx; simp at hx
  | some dd =>
    rw [hu] at hx
    cases dd <;> (try simp only at hx) <;> try (simp at hx; done)
    rename_i e
    cases hz : (Env.of P).size e with
    | none => rw [hz] at hx; simp at hx
    | some z =>
      cases hby : (Env.of P).bytes e with
      | none => rw [hz, hby] at hx; simp at hx
      | some by_ =>
        cases hsrc : srcEls s.O y with
        | none => rw [hz, hby, hsrc] at hx; simp at hx
        | some p3 =>
          obtain ⟨sx, xs, cx⟩ := p3
          rw [hz, hby, hsrc] at hx; simp only at hx
          cases hg : ((Nat.beq sx z || xs.isEmpty) && Nat.ble 1 z && Nat.ble 1 by_ && zeroOk (Env.of P) e z) with
          | false => rw [hg] at hx; simp at hx
          | true =>
            rw [hg] at hx; simp only [cond_true] at hx
            simp only [Bool.and_eq_true] at hg
            obtain ⟨⟨⟨g1, g2⟩, g3⟩, g4⟩ := hg
            have g2 := Nat.le_of_ble_eq_true g2
            have g3 := Nat.le_of_ble_eq_true g3
            -- what the three forms share
            have src : (∀ b ∈ cx, b = true) → ∃ X, (∀ w' : World, w'.heap = w.heap → (Builtin.lenOf vx).run P w' = .ok xs.length w' ∧ (Builtin.firstCells z xs.length vx).run P w' = .ok X w') ∧ RowOf κ w.heap X z xs :=
              fun hcx => firstCells_ok F hsrc hcx r2 g1 g2
            have own : ∀ (i d : Nat) (els : List DV) (base : Option Addr) (cap : Nat), i ≠ d → s.O d = none → φ i ≠ .un → (∀ b ∈ cx, b = true) → (els.length + xs.length) * by_ ≤ 2 ^ 38 → SlOk κ w.heap (.slice base els.length cap) z els →
                ((cap = els.length ∧ els = []) ∨ ∃ b c fz, base = some ⟨b, 0, none⟩ ∧ κ b = .own i ∧ w.heap[b]? = some (.cells c e fz) ∧ FzOk fz c.size ∧ cap * z ≤ c.size ∧ EL κ w.heap c 0 z els) →
                Out P κ φ w s a (.own d z) [(i, .gone), (d, .arr e z (els ++ xs))] (Builtin.append_ #[t, t2] t #[.slice base els.length cap, vx]) := by
              intro i d els base cap hid hd hφi hcx hroom hsl hmode
              obtain ⟨X, hX, hrow⟩ := src hcx
              obtain ⟨F1, M1, R1⟩ := F.gone i hφi
              have hd1 : setT s.O i (some .gone) d = none := by rw [setT_ne _ _ (fun e => hid e.symm)]; exact hd
              obtain ⟨v', w', κ', φ', o1, o2, o3, o4⟩ := append_core F1 (d := d) (t := t) (t2 := t2) hd1 hu hu2 hni hz hby g4 g2 g3 hroom hsl (hX w rfl).1 (fun w' hw => (hX w' hw).2) hrow
                (by rcases hmode with ⟨m1, m2⟩ | ⟨b, c, fz, m1, m2, m3, m4, m5, m6⟩
                    · exact .inl ⟨m1, .inl m2⟩
                    · exact .inr ⟨b, c, fz, i, m1, m2, hid, setT_same _ _ _, m3, m4, m5, m6⟩)
              exact ⟨v', w', κ', φ', o1, o2, o3, R1.trans o4.1, M1.kp.trans o4.2⟩
            cases x <;> (try simp only at hx) <;> try (simp at hx; done)
            case d q =>
              cases q <;> (try simp only at hx) <;> try (simp at hx; done)
              rename_i sz els full
              cases full <;> (try simp only at hx) <;> try (simp at hx; done)
              cases hzz : (Nat.beq sz z || els.isEmpty) with
              | false => rw [hzz] at hx; simp at hx
              | true =>
                rw [hzz] at hx; simp only [cond_true] at hx
                cases hO : s.O sl with
                | some p => rw [hO] at hx; simp at hx
                | none =>
                  rw [hO] at hx; simp only [Option.some.injEq] at hx; subst hx
                  obtain ⟨X, hX, hrow⟩ := src (fun b hb => hc b (by simp [hb]))
                  have hroom : (els.length + xs.length) * by_ ≤ 2 ^ 38 := by simpa using hc (decide ((els.length + xs.length) * by_ ≤ 2 ^ 38)) (by simp)
                  have hne : (els.isEmpty || !xs.isEmpty) = true := hc _ (by simp)
                  have hor : els = [] ∨ xs ≠ [] := by
                    simp only [Bool.or_eq_true] at hne
                    rcases hne with hne | hne
                    · left; simpa using hne
                    · right; intro e; subst e; simp at hne
                  have hsl : SlOk κ w.heap v z els ∧ ∃ base cap, v = .slice base els.length cap ∧ cap = els.length := by
                    cases r with
                    | d hr =>
                      have h1 := hr.slOk
                      refine ⟨?_, ?_⟩
                      · by_cases he : els = []
                        · subst he; obtain ⟨base, cap, e1, e2, _⟩ := h1; exact ⟨base, cap, e1, e2, .inl rfl⟩
                        · have : sz = z := by
                            simp only [Bool.or_eq_true] at hzz
                            rcases hzz with h | h
                            · exact nbE h
                            · exact absurd (by simpa using h) he
                          subst this; exact h1
                      · cases hr with
                        | lst0 hf => exact ⟨_, _, rfl, (hf rfl).1⟩
                        | lst _ _ hf _ _ _ _ => exact ⟨_, _, rfl, (hf rfl).1⟩
                  obtain ⟨hsl, base, cap, rfl, hcap⟩ := hsl
                  exact append_core F (d := sl) (t := t) (t2 := t2) hO hu hu2 hni hz hby g4 g2 g3 hroom hsl (hX w rfl).1 (fun w' hw => (hX w' hw).2) hrow (.inl ⟨hcap, hor⟩)
            case own i sz =>
              cases hzz : Nat.beq sz z with
              | false => rw [hzz] at hx; simp at hx
              | true =>
                have := nbE hzz; subst this
                rw [hzz] at hx; simp only [cond_true] at hx
                cases hO : s.O i with
                | none => rw [hO] at hx; simp at hx
                | some p =>
                  rw [hO] at hx
                  cases p <;> (try simp only at hx) <;> try (simp at hx; done)
                  rename_i ty sz' els
                  cases hzz2 : (Nat.beq sz' sz && Nat.beq ty e) with
                  | false => rw [hzz2] at hx; simp at hx
                  | true =>
                    rw [hzz2] at hx; simp only [cond_true] at hx
                    simp only [Bool.and_eq_true] at hzz2
                    have := nbE hzz2.1; subst this
                    have := nbE hzz2.2; subst this
                    have hid : i ≠ (bif Nat.beq i sl then sl + 1 else sl) := by
                      cases hb : Nat.beq i sl with
                      | true => have := nbE hb; subst this; simp
                      | false => simp only [cond_false]; intro e; rw [nbT e] at hb; cases hb
                    generalize (bif Nat.beq i sl then sl + 1 else sl) = d at hx hid
                    cases hd : s.O d with
                    | some p => rw [hd] at hx; simp at hx
                    | none =>
                      rw [hd] at hx; simp only [Option.some.injEq] at hx; subst hx
                      have hroom : (els.length + xs.length) * by_ ≤ 2 ^ 38 := by simpa using hc (decide ((els.length + xs.length) * by_ ≤ 2 ^ 38)) (by simp)
                      have ho := F.objs i
                      have hsl := own_slOk (.inl ⟨_, hO⟩) ho r
                      rw [hO] at ho
                      cases r with
                      | own hφ hb hcap hlc hlen =>
                        have hl := hlen els.length (by rw [hO]; rfl)
                        subst hl
                        refine own i d els _ _ hid hd (by rw [hφ]; simp) (fun b hb => hc b (by simp [hb])) hroom hsl ?_
                        rcases ho with ⟨h1, h2⟩ | ⟨b, c, fz, h1, h2, h3, h4, h5⟩
                        · rw [h1] at hφ; cases hφ
                        · rw [h1] at hφ; injection hφ with hφ; subst hφ
                          rw [h3] at hb; injection hb with hb; injection hb with e1 e2 e3; subst e1
                          exact .inr ⟨_, _, _, rfl, h2, h3, h4, hcap, h5⟩
                      | ownNil hφ =>
                        rcases ho with ⟨h1, h2⟩ | ⟨b, c, fz, h1, h2, h3, h4, h5⟩
                        · subst h2
                          exact own i d [] _ _ hid hd (by rw [hφ]; simp) (fun b hb => hc b (by simp [hb])) hroom hsl (.inl ⟨rfl, rfl⟩)
                        · rw [h1] at hφ; cases hφ
            case sub i sz off len =>
              cases hzz : (Nat.beq sz z && Nat.beq off 0) with
              | false => rw [hzz] at hx; simp at hx
              | true =>
                simp only [Bool.and_eq_true] at hzz
                have := nbE hzz.1; subst this
                have := nbE hzz.2; subst this
                have : (Nat.beq sz sz && Nat.beq 0 0) = true := by simp
                rw [this] at hx; simp only [cond_true] at hx
                cases hO : s.O i with
                | none => rw [hO] at hx; simp at hx
                | some p =>
                  rw [hO] at hx
                  cases p <;> (try simp only at hx) <;> try (simp at hx; done)
                  rename_i ty sz' els
                  cases hzz2 : (Nat.beq sz' sz && Nat.beq ty e) with
                  | false => rw [hzz2] at hx; simp at hx
                  | true =>
                    rw [hzz2] at hx; simp only [cond_true] at hx
                    simp only [Bool.and_eq_true] at hzz2
                    have := nbE hzz2.1; subst this
                    have := nbE hzz2.2; subst this
                    have hid : i ≠ (bif Nat.beq i sl then sl + 1 else sl) := by
                      cases hb : Nat.beq i sl with
                      | true => have := nbE hb; subst this; simp
                      | false => simp only [cond_false]; intro e; rw [nbT e] at hb; cases hb
                    generalize (bif Nat.beq i sl then sl + 1 else sl) = d at hx hid
                    cases hd : s.O d with
                    | some p => rw [hd] at hx; simp at hx
                    | none =>
                      rw [hd] at hx; simp only [Option.some.injEq] at hx; subst hx
                      have hroom : (len + xs.length) * by_ ≤ 2 ^ 38 := by simpa using hc (decide ((len + xs.length) * by_ ≤ 2 ^ 38)) (by simp)
                      have hle : len ≤ els.length := by simpa using hc (decide (len ≤ els.length)) (by simp)
                      have htl : (els.take len).length = len := by simp; omega
                      have ho := F.objs i
                      have hsl := sub_slOk (.inl ⟨_, hO⟩) ho (by omega) r
                      simp only [List.drop_zero] at hsl
                      rw [hO] at ho
                      cases r with
                      | sub hφ hb hcap hlc =>
                        rename_i cap b c ty fz
                        have key := own i d (els.take len) (some ⟨b, 0, none⟩) cap hid hd (by rw [hφ]; simp) (fun b hb => hc b (by simp [hb])) (by rw [htl]; exact hroom) (by rw [htl]; simpa using hsl)
                          (by rcases ho with ⟨h1, h2⟩ | ⟨b', c', fz', h1, h2, h3, h4, h5⟩
                              · rw [h1] at hφ; cases hφ
                              · rw [h1] at hφ; injection hφ with hφ; subst hφ
                                rw [h3] at hb; injection hb with hb; injection hb with e1 e2 e3; subst e1
                                refine .inr ⟨_, _, _, rfl, h2, h3, h4, by simpa using hcap, ?_⟩
                                rcases h5.part 0 len with h6 | h6
                                · simpa using h6
                                · simp only [List.drop_zero] at h6; rw [h6]; exact ⟨fun x hx => by simp at hx, by simp, by simp⟩)
                        rw [htl] at key
                        simpa using key
                      | sub0 hφ =>
                        have key := own i d [] _ 0 hid hd hφ (fun b hb => hc b (by simp [hb])) (by simpa using hroom) (by simpa using hsl) (.inl ⟨rfl, rfl⟩)
                        simpa using key

end Go.Am

/-
  The abstract machine: each operation is sound (numbers, texts, comparisons, lengths).
-/
namespace Go.Am
variable {P : Program}

theorem kindEq_of {a b : IntKind} (h : kindEq a b = true) : a = b := by cases a <;> cases b <;> first | rfl | (simp [kindEq] at h)

theorem ba_toList (l : List UInt8) : (⟨l.toArray⟩ : ByteArray).toList = l := by
  rw [ByteArray.toList_eq]

theorem ba_append (a b : List UInt8) : (⟨a.toArray⟩ : ByteArray) ++ ⟨b.toArray⟩ = ⟨(a ++ b).toArray⟩ := by
  apply ByteArray.ext
  rw [ByteArray.data_append]
  simp

theorem int_run {op : BinOp} {k : IntKind} {a b : Int} {v : DV} {c : List Bool} (hs : isShift op = false) (hx : exInt op k a b = some (v, c)) (hc : ∀ b ∈ c, b = true) (t : Nat) (w : World) :
    ∃ u, (binOp op t (.int k a) (.int k b)).run P w = .ok u w ∧ ∀ κ h, DR κ h v u := by
  cases op <;> simp only [exInt, Option.some.injEq, Prod.mk.injEq] at hx <;> (try (simp at hx; done)) <;> obtain ⟨rfl, rfl⟩ := hx
  case add => exact ⟨_, by simp [binOp, Op.intArith], fun _ _ => .int _ _⟩
  case sub => exact ⟨_, by simp [binOp, Op.intArith], fun _ _ => .int _ _⟩
  case mul => exact ⟨_, by simp [binOp, Op.intArith], fun _ _ => .int _ _⟩
  case quo =>
    have : b ≠ 0 := by simpa using hc
    exact ⟨_, by simp [binOp, Op.intDiv, this], fun _ _ => .int _ _⟩
  case rem =>
    have : b ≠ 0 := by simpa using hc
    exact ⟨_, by simp [binOp, Op.intDiv, this], fun _ _ => .int _ _⟩
  case and => exact ⟨.int k (bits .and k a b), by simp only [binOp, Op.intBits, bits, ne_eq, not_true_eq_false, if_false]; rfl, fun _ _ => .int _ _⟩
  case or => exact ⟨.int k (bits .or k a b), by simp only [binOp, Op.intBits, bits, ne_eq, not_true_eq_false, if_false]; rfl, fun _ _ => .int _ _⟩
  case xor => exact ⟨.int k (bits .xor k a b), by simp only [binOp, Op.intBits, bits, ne_eq, not_true_eq_false, if_false]; rfl, fun _ _ => .int _ _⟩
  case andNot => exact ⟨.int k (bits .andNot k a b), by simp only [binOp, Op.intBits, bits, ne_eq, not_true_eq_false, if_false]; rfl, fun _ _ => .int _ _⟩
  case eql => exact ⟨_, by simp [binOp, Op.intCmp], fun _ _ => .bool _⟩
  case neq => exact ⟨_, by simp [binOp, Op.intCmp], fun _ _ => .bool _⟩
  case lss => exact ⟨_, by simp [binOp, Op.intCmp], fun _ _ => .bool _⟩
  case leq => exact ⟨_, by simp [binOp, Op.intCmp], fun _ _ => .bool _⟩
  case gtr => exact ⟨_, by simp [binOp, Op.intCmp], fun _ _ => .bool _⟩
  case geq => exact ⟨_, by simp [binOp, Op.intCmp], fun _ _ => .bool _⟩

theorem str_run {op : BinOp} {a b : List UInt8} {v : DV} {c : List Bool} (hx : exStr op a b = some (v, c)) (hc : ∀ b ∈ c, b = true) (t : Nat) (w : World) :
    ∃ u, (binOp op t (.string ⟨a.toArray⟩) (.string ⟨b.toArray⟩)).run P w = .ok u w ∧ ∀ κ h, DR κ h v u := by
  cases op <;> simp only [exStr, Option.some.injEq, Prod.mk.injEq] at hx <;> (try (simp at hx; done)) <;> obtain ⟨rfl, rfl⟩ := hx
  case add =>
    have hle : a.length + b.length ≤ 2 ^ 62 := by simpa using hc
    have h62 : (2 : Nat) ^ 62 = 4611686018427387904 := by decide
    refine ⟨.string ⟨(a ++ b).toArray⟩, ?_, fun _ _ => .str _⟩
    simp only [binOp, Op.stringOp]
    rw [if_neg (by rw [maxI]; simp only [ByteArray.size, List.size_toArray]; omega), ba_append]; rfl
  all_goals
    refine ⟨_, by simp only [binOp, Op.stringOp, ba_toList]; rfl, fun _ _ => .bool _⟩

theorem eqS_run {d : Option TypeDesc} {a b : DV} {r : Bool} (h : eqS d a b = some r) {κ : Kap} {hp : Heap} {u v : Value} (ra : DR κ hp a u) (rb : DR κ hp b v) {t n : Nat} (hd : (Env.of P).und t = d) (w : World) :
    (Op.equalIn (n + 1) t u v).run P w = .ok r w ∧ (Env.of P).isAgg t = false ∧ d.isSome = true := by
  unfold eqS at h
  split at h
  · rename_i k0 k x k' y
    cases hke : kindEq k k' with
    | false => rw [hke] at h; simp at h
    | true =>
      have := kindEq_of hke; subst this
      rw [hke] at h; simp only [cond_true, Option.some.injEq] at h; subst h
      cases ra; cases rb
      exact ⟨run_equalIn_int w n t k k0 x y hd, by simp [Env.isAgg, hd], rfl⟩
  · injection h with h; subst h
    cases ra; cases rb
    rw [run_equalIn_string w n t _ _ hd, ba_toList, ba_toList]
    exact ⟨rfl, by simp [Env.isAgg, hd], rfl⟩
  · injection h with h; subst h
    cases ra; cases rb
    exact ⟨run_equalIn_bool' w n t _ _ hd, by simp [Env.isAgg, hd], rfl⟩
  · simp at h

theorem eqFieldsD_run {κ : Kap} {hp : Heap} {xs ys : Array Value} {n : Nat} (w : World) : ∀ (fs : List Field) (k : Nat) (a b : List DV) (r : Bool), eqFieldsD (Env.of P) k fs a b = some r →
    (∀ (i : Nat) (x : DV) (v : Value), a[i]? = some x → xs[k + i]? = some v → DR κ hp x v) → (∀ (i : Nat) (x : DV) (v : Value), b[i]? = some x → ys[k + i]? = some v → DR κ hp x v) →
    k + a.length ≤ xs.size → k + b.length ≤ ys.size → (Op.eqFields (n + 1) xs ys fs).run P w = .ok r w
  | [], k, a, b, r, h, _, _, _, _ => by
    unfold eqFieldsD at h
    cases a <;> cases b <;> simp at h
    subst h; rfl
  | f :: fs, k, a, b, r, h, ha, hb, la, lb => by
    cases a with
    | nil => simp [eqFieldsD] at h
    | cons x a =>
      cases b with
      | nil => simp [eqFieldsD] at h
      | cons y b =>
        simp only [eqFieldsD] at h
        cases hg : ((f.name != "_") && Nat.beq f.offset k) with
        | false => rw [hg] at h; simp at h
        | true =>
          rw [hg] at h; simp only [cond_true] at h
          simp only [Bool.and_eq_true, bne_iff_ne] at hg
          have hoff := nbE hg.2
          cases h1 : eqS ((Env.of P).und f.type) x y with
          | none => rw [h1] at h; simp at h
          | some r1 =>
            cases h2 : eqFieldsD (Env.of P) (k + 1) fs a b with
            | none => rw [h1, h2] at h; simp at h
            | some r2 =>
              rw [h1, h2] at h; simp only [Option.some.injEq] at h; subst h
              have lx : k < xs.size := by simp at la; omega
              have ly : k < ys.size := by simp at lb; omega
              obtain ⟨q1, q2, q3⟩ := eqS_run (n := n) h1 (ha 0 x xs[k] rfl (by simp [lx])) (hb 0 y ys[k] rfl (by simp [ly])) rfl w
              obtain ⟨d, hd⟩ := Option.isSome_iff_exists.1 q3
              have pt : ∀ (zs : Array Value) (hz : k < zs.size), (part f.type zs f.offset).run P w = .ok zs[k] w := by
                intro zs hz
                simp only [part, Sem.run_bind, run_isAgg rfl (show P.underlying f.type = some d from hd), Result.andThen_ok, q2, hoff, Bool.false_eq_true, if_false]
                simp [hz]
              simp only [Op.eqFields]
              rw [if_pos hg.1]
              simp only [Sem.run_bind, pt xs lx, pt ys ly, Result.andThen_ok, q1]
              cases r1 with
              | false => simp
              | true =>
                simp only [Bool.not_true, Bool.false_eq_true, if_false, Bool.true_and]
                exact eqFieldsD_run w fs (k + 1) a b r2 h2 (fun i x v hx hv => ha (i + 1) x v (by simpa using hx) (by rw [← hv]; congr 1; omega)) (fun i x v hx hv => hb (i + 1) x v (by simpa using hx) (by rw [← hv]; congr 1; omega)) (by simp at la; omega) (by simp at lb; omega)

theorem eqOp_of {op : BinOp} {b : Bool} {v : RV} (h : eqOp op b = some v) : (op = .eql ∧ v = .d (.bool b)) ∨ (op = .neq ∧ v = .d (.bool (!b))) := by
  cases op <;> simp [eqOp] at h
  · exact .inl ⟨rfl, h.symm⟩
  · exact .inr ⟨rfl, h.symm⟩

theorem isPtr_val {κ : Kap} {φ : Phi} {O : Tab} {h : Heap} {x : RV} {v : Value} (r : RVR κ φ O h x v) (hp : isPtr x = true) : ∃ ad, v = .pointer (some ad) := by
  cases r <;> first | exact ⟨_, rfl⟩ | (simp [isPtr] at hp)

theorem eq_nilp (n t : Nat) {e : Nat} (b : Option Addr) (hu : (Env.of P).und t = some (.pointer e)) (w : World) : (Op.equalIn (n + 1) t (.pointer none) (.pointer b)).run P w = .ok b.isNone w := by
  simp only [Op.equalIn, Sem.run_bind, run_und hu, Result.andThen_ok, Sem.run_pure]
theorem eq_pnil (n t : Nat) {e : Nat} (b : Addr) (hu : (Env.of P).und t = some (.pointer e)) (w : World) : (Op.equalIn (n + 1) t (.pointer (some b)) (.pointer none)).run P w = .ok false w := by
  simp only [Op.equalIn, Sem.run_bind, run_und hu, Result.andThen_ok, Sem.run_pure]
theorem eq_nilm (n t : Nat) {k e : Nat} (b : Option Nat) (hu : (Env.of P).und t = some (.map k e)) (w : World) : (Op.equalIn (n + 1) t (.map none) (.map b)).run P w = .ok b.isNone w := by
  simp only [Op.equalIn, Sem.run_bind, run_und hu, Result.andThen_ok, Sem.run_pure]
theorem eq_mnil (n t : Nat) {k e : Nat} (b : Nat) (hu : (Env.of P).und t = some (.map k e)) (w : World) : (Op.equalIn (n + 1) t (.map (some b)) (.map none)).run P w = .ok false w := by
  simp only [Op.equalIn, Sem.run_bind, run_und hu, Result.andThen_ok, Sem.run_pure]
def ptrish : Value → Bool
  | .pointer _ => true
  | .map _ => true
  | .bool _ => true
  | _ => false
theorem bin_eql {t : Nat} {u v : Value} {r : Bool} (w : World) (hu : ptrish u = true) (hv : ptrish v = true) (h : (Op.equalIn (9999 + 1) t u v).run P w = .ok r w) :
    (binOp .eql t u v).run P w = .ok (.bool r) w ∧ (binOp .neq t u v).run P w = .ok (.bool (!r)) w := by
  have h' : (Op.equal t u v).run P w = .ok r w := h
  cases u <;> cases v <;> first | (simp [ptrish] at hu hv; done) | exact ⟨by simp only [binOp, Sem.run_bind, h', Result.andThen_ok, Sem.run_pure], by simp only [binOp, Sem.run_bind, h', Result.andThen_ok, Sem.run_pure]⟩

theorem bin_ok {κ : Kap} {φ : Phi} {w : World} {s : SSt} {a : Act} (F : FRel κ φ w s a) {op : BinOp} {t : Nat} {x y : RV} {xo yo : Operand} {v u : Value} {res : Res}
    (hx : exBin (Env.of P) op t x y = some res) (hc : ∀ b ∈ res.conds, b = true) (r : RVR κ φ s.O w.heap x v) (r2 : RVR κ φ s.O w.heap y u) :
    Out P κ φ w s a res.val res.upd (do eqGuard op t xo yo v u; binOp op t v u) := by
  have fin : ∀ (z : Value), (eqGuard op t xo yo v u).run P w = .ok () w → (binOp op t v u).run P w = .ok z w → RVR κ φ s.O w.heap res.val z → res.upd = [] → Out P κ φ w s a res.val res.upd (do eqGuard op t xo yo v u; binOp op t v u) := by
    intro z h1 h2 h3 h4
    rw [h4]
    exact Out.pure F (by simp [h1, h2]) h3
  have gd : (∀ xs ys, ¬ (v = .agg xs ∧ u = .agg ys)) → ¬ (v = .nilIface ∧ u = .nilIface) → (eqGuard op t xo yo v u).run P w = .ok () w := by
    intro h1 h2
    unfold eqGuard
    cases op <;> first | rfl | (cases v <;> cases u <;> first | rfl | exact absurd ⟨rfl, rfl⟩ (h1 _ _) | exact absurd ⟨rfl, rfl⟩ h2)
  unfold exBin at hx
  split at hx
  · -- ints
    rename_i k m k' n
    cases r with
    | d hr =>
    cases r2 with
    | d hr2 =>
    cases hr; cases hr2
    have g := gd (by rintro _ _ ⟨h, _⟩; cases h) (by rintro ⟨h, _⟩; cases h)
    cases hsh : isShift op with
    | true =>
      rw [hsh] at hx; simp only [cond_true] at hx
      cases op <;> simp [isShift] at hsh
      · injection hx with hx; subst hx
        have hn : 0 ≤ n := by simpa using hc
        refine fin _ g ?_ (.d (.int _ _)) rfl
        simp only [binOp, Op.shift]
        rw [if_neg (by omega)]; rfl
      · injection hx with hx; subst hx
        have hn : 0 ≤ n := by simpa using hc
        refine fin _ g ?_ (.d (.int _ _)) rfl
        simp only [binOp, Op.shift]
        rw [if_neg (by omega)]; rfl
    | false =>
      rw [hsh] at hx; simp only [cond_false] at hx
      cases hke : kindEq k k' with
      | false => rw [hke] at hx; simp at hx
      | true =>
        have := kindEq_of hke; subst this
        rw [hke] at hx; simp only [cond_true] at hx
        cases he : exInt op k m n with
        | none => rw [he] at hx; simp at hx
        | some p =>
          obtain ⟨dv, cc⟩ := p
          rw [he] at hx; simp only [Option.some.injEq] at hx; subst hx
          obtain ⟨z, z1, z2⟩ := int_run hsh he hc t w
          exact fin z g z1 (.d (z2 _ _)) rfl
  · -- strings
    rename_i p q
    cases r with
    | d hr =>
    cases r2 with
    | d hr2 =>
    cases hr; cases hr2
    have g := gd (by rintro _ _ ⟨h, _⟩; cases h) (by rintro ⟨h, _⟩; cases h)
    cases he : exStr op p q with
    | none => rw [he] at hx; simp at hx
    | some pp =>
      obtain ⟨dv, cc⟩ := pp
      rw [he] at hx; simp only [Option.some.injEq] at hx; subst hx
      obtain ⟨z, z1, z2⟩ := str_run he hc t w
      exact fin z g z1 (.d (z2 _ _)) rfl
  · -- bools
    rename_i p q
    cases r with
    | d hr =>
    cases r2 with
    | d hr2 =>
    cases hr; cases hr2
    have g := gd (by rintro _ _ ⟨h, _⟩; cases h) (by rintro ⟨h, _⟩; cases h)
    split at hx
    · rename_i hu he
      injection hx with hx; subst hx
      rcases eqOp_of he with ⟨rfl, rfl⟩ | ⟨rfl, rfl⟩
      · exact fin (.bool (p == q)) g (bin_eql w rfl rfl (run_equalIn_bool' w 9999 t p q hu)).1 (.d (.bool _)) rfl
      · exact fin (.bool (!(p == q))) g (bin_eql w rfl rfl (run_equalIn_bool' w 9999 t p q hu)).2 (.d (.bool _)) rfl
    · simp at hx
  · -- structs
    rename_i p q
    cases r with
    | d hr =>
    cases r2 with
    | d hr2 =>
    cases hr with
    | agg hl hs hr =>
    cases hr2 with
    | agg hl2 hs2 hr2 =>
    rename_i vs us
    split at hx
    · rename_i fs hu
      split at hx
      · rename_i b he
        cases hok : (Env.of P).eqOk t with
        | false => rw [hok] at hx; simp at hx
        | true =>
          rw [hok] at hx; simp only [cond_true] at hx
          simp only [Env.of, Bool.and_eq_true, Bool.not_eq_true'] at hok
          split at hx
          · rename_i z hz
            injection hx with hx; subst hx
            have g := run_eqGuard_agg w op t xo yo vs us hok.2
            have hfo : P.fieldsOf t = fs := by simp only [Program.fieldsOf]; rw [show P.underlying t = some (.struct fs) from hu]
            have heq : (Op.equalIn 10000 t (.agg vs) (.agg us)).run P w = .ok b w := by
              rw [run_equalIn_struct w 9999 t vs us (by rw [hfo]; exact hu) hok.1, hfo]
              exact eqFieldsD_run w fs.toList 0 p q b he (fun i x v hx hv => hr i x v hx (by simpa using hv)) (fun i x v hx hv => hr2 i x v hx (by simpa using hv)) (by omega) (by omega)
            rcases eqOp_of hz with ⟨rfl, rfl⟩ | ⟨rfl, rfl⟩
            · exact fin (.bool b) g (by rw [run_eql_struct, heq]; rfl) (.d (.bool _)) rfl
            · exact fin (.bool (!b)) g (by rw [run_neq_struct, heq]; rfl) (.d (.bool _)) rfl
          · simp at hx
      · simp at hx
    · simp at hx
  · -- nil and nil
    cases r with
    | d hr =>
    cases r2 with
    | d hr2 =>
    cases hr; cases hr2
    have g := gd (by rintro _ _ ⟨h, _⟩; cases h) (by rintro ⟨h, _⟩; cases h)
    split at hx
    · rename_i el z hu he
      injection hx with hx; subst hx
      rcases eqOp_of he with ⟨rfl, rfl⟩ | ⟨rfl, rfl⟩
      · exact fin (.bool true) g (bin_eql w rfl rfl (eq_nilp 9999 t none hu w)).1 (.d (.bool _)) rfl
      · exact fin (.bool false) g (bin_eql w rfl rfl (eq_nilp 9999 t none hu w)).2 (.d (.bool _)) rfl
    · simp at hx
  · -- a place and nil
    rename_i p _
    cases hp : isPtr x with
    | false => rw [hp] at hx; simp at hx
    | true =>
      rw [hp] at hx; simp only [cond_true] at hx
      obtain ⟨ad, rfl⟩ := isPtr_val r hp
      cases r2 with
      | d hr2 =>
      cases hr2
      have g := gd (by rintro _ _ ⟨h, _⟩; cases h) (by rintro ⟨h, _⟩; cases h)
      split at hx
      · rename_i el z hu he
        injection hx with hx; subst hx
        rcases eqOp_of he with ⟨rfl, rfl⟩ | ⟨rfl, rfl⟩
        · exact fin (.bool false) g (bin_eql w rfl rfl (eq_pnil 9999 t ad hu w)).1 (.d (.bool _)) rfl
        · exact fin (.bool true) g (bin_eql w rfl rfl (eq_pnil 9999 t ad hu w)).2 (.d (.bool _)) rfl
      · simp at hx
  · -- nil and a place
    cases hp : isPtr y with
    | false => rw [hp] at hx; simp at hx
    | true =>
      rw [hp] at hx; simp only [cond_true] at hx
      obtain ⟨ad, rfl⟩ := isPtr_val r2 hp
      cases r with
      | d hr =>
      cases hr
      have g := gd (by rintro _ _ ⟨h, _⟩; cases h) (by rintro ⟨h, _⟩; cases h)
      split at hx
      · rename_i el z hu he
        injection hx with hx; subst hx
        rcases eqOp_of he with ⟨rfl, rfl⟩ | ⟨rfl, rfl⟩
        · exact fin (.bool false) g (bin_eql w rfl rfl (eq_nilp 9999 t (some ad) hu w)).1 (.d (.bool _)) rfl
        · exact fin (.bool true) g (bin_eql w rfl rfl (eq_nilp 9999 t (some ad) hu w)).2 (.d (.bool _)) rfl
      · simp at hx
  · -- a map and nil
    cases r with
    | map hφ =>
    cases r2 with
    | d hr2 =>
    cases hr2
    have g := gd (by rintro _ _ ⟨h, _⟩; cases h) (by rintro ⟨h, _⟩; cases h)
    split at hx
    · rename_i el z1 z hu he
      injection hx with hx; subst hx
      rcases eqOp_of he with ⟨rfl, rfl⟩ | ⟨rfl, rfl⟩
      · exact fin (.bool false) g (bin_eql w rfl rfl (eq_mnil 9999 t _ hu w)).1 (.d (.bool _)) rfl
      · exact fin (.bool true) g (bin_eql w rfl rfl (eq_mnil 9999 t _ hu w)).2 (.d (.bool _)) rfl
    · simp at hx
  · -- no map and nil
    cases r with
    | d hr =>
    cases r2 with
    | d hr2 =>
    cases hr; cases hr2
    have g := gd (by rintro _ _ ⟨h, _⟩; cases h) (by rintro ⟨h, _⟩; cases h)
    split at hx
    · rename_i el z1 z hu he
      injection hx with hx; subst hx
      rcases eqOp_of he with ⟨rfl, rfl⟩ | ⟨rfl, rfl⟩
      · exact fin (.bool true) g (bin_eql w rfl rfl (eq_nilm 9999 t none hu w)).1 (.d (.bool _)) rfl
      · exact fin (.bool false) g (bin_eql w rfl rfl (eq_nilm 9999 t none hu w)).2 (.d (.bool _)) rfl
    · simp at hx
  · simp at hx

theorem eq_slnil (n t : Nat) {e : TypeId} (a : Option Addr) (l c l' c' : Nat) (hu : P.underlying t = some (.slice e)) (w : World) : (Op.equalIn (n + 1) t (.slice a l c) (.slice none l' c')).run P w = .ok a.isNone w := by
  cases a <;> simp [Op.equalIn, run_underlying hu]

theorem bin_eqlS {t l c : Nat} {base : Option Addr} {r : Bool} (w : World) (h : (Op.equalIn (9999 + 1) t (.slice base l c) (.slice none 0 0)).run P w = .ok r w) :
    (binOp .eql t (.slice base l c) (.slice none 0 0)).run P w = .ok (.bool r) w ∧ (binOp .neq t (.slice base l c) (.slice none 0 0)).run P w = .ok (.bool (!r)) w := by
  have h' : (Op.equal t (.slice base l c) (.slice none 0 0)).run P w = .ok r w := h
  exact ⟨by simp only [binOp, Sem.run_bind, h', Result.andThen_ok, Sem.run_pure], by simp only [binOp, Sem.run_bind, h', Result.andThen_ok, Sem.run_pure]⟩

theorem isNilSl_ok {κ : Kap} {φ : Phi} {w : World} {s : SSt} {a : Act} (F : FRel κ φ w s a) {x : RV} {v : Value} {b : Bool} (hx : isNilSl s.O x = some b) (r : RVR κ φ s.O w.heap x v) :
    ∃ base l c, v = .slice base l c ∧ base.isNone = b := by
  unfold isNilSl at hx
  split at hx
  · rename_i sz els full
    cases r with
    | d hr =>
    split at hx
    · cases hg : (Nat.beq sz 0 && full) with
      | false => rw [hg] at hx; simp at hx
      | true =>
        rw [hg] at hx; simp only [cond_true, Option.some.injEq] at hx; subst hx
        simp only [Bool.and_eq_true] at hg
        have := nbE hg.1; subst this
        cases hr with
        | lst0 hf => have := (hf hg.2).2 rfl; subst this; exact ⟨_, _, _, rfl, rfl⟩
        | lst _ _ hf _ _ _ _ => have := (hf hg.2).2; omega
    · injection hx with hx; subst hx
      cases hr with
      | lst _ _ _ _ _ _ _ => exact ⟨_, _, _, rfl, rfl⟩
  · rename_i i sz
    have ho := F.objs i
    cases r with
    | own hφ hb hcap hlc hlen =>
      split at hx
      · injection hx with hx; subst hx; exact ⟨_, _, _, rfl, rfl⟩
      · injection hx with hx; subst hx; exact ⟨_, _, _, rfl, rfl⟩
      · cases hx
    | ownNil hφ =>
      split at hx
      · rename_i hO
        rw [hO] at ho
        rcases ho with ⟨_, h2⟩ | ⟨_, _, _, h1, _⟩
        · cases h2
        · rw [h1] at hφ; cases hφ
      · rename_i hO
        rw [hO] at ho
        rcases ho with ⟨_, h2⟩ | ⟨_, _, _, _, h1, _⟩
        · cases h2
        · rw [h1] at hφ; cases hφ
      · cases hx
  · injection hx with hx; subst hx
    cases r with
    | sub hφ hb hcap hlc => exact ⟨_, _, _, rfl, rfl⟩
  · cases hx

theorem binO_ok {κ : Kap} {φ : Phi} {w : World} {s : SSt} {a : Act} (F : FRel κ φ w s a) {op : BinOp} {t : Nat} {x y : RV} {xo yo : Operand} {v u : Value} {res : Res}
    (hx : exBinO (Env.of P) s.O op t x y = some res) (hc : ∀ b ∈ res.conds, b = true) (r : RVR κ φ s.O w.heap x v) (r2 : RVR κ φ s.O w.heap y u) :
    Out P κ φ w s a res.val res.upd (do eqGuard op t xo yo v u; binOp op t v u) := by
  unfold exBinO at hx
  split at hx
  · unfold exNilCmp at hx
    split at hx
    · rename_i e b hu hb
      split at hx
      · rename_i z he
        injection hx with hx; subst hx
        obtain ⟨base, l, c, rfl, hbb⟩ := isNilSl_ok F hb r
        have hu2 : u = .slice none 0 0 := by
          cases r2 with
          | d hr =>
          cases hr with
          | lst0 hf => have := hf rfl; rw [this.1, this.2 rfl]
          | lst _ _ hf _ _ _ _ => have := (hf rfl).2; omega
        subst hu2
        have g : (eqGuard op t xo yo (.slice base l c) (.slice none 0 0)).run P w = .ok () w := by
          unfold eqGuard
          cases op <;> rfl
        have hq := eq_slnil (P := P) 9999 t base l c 0 0 hu w
        rw [hbb] at hq
        rcases eqOp_of he with ⟨rfl, rfl⟩ | ⟨rfl, rfl⟩
        · exact Out.pure F (v := .bool b) (by simp only [Sem.run_bind, g, Result.andThen_ok]; exact (bin_eqlS w hq).1) (.d (.bool _))
        · exact Out.pure F (v := .bool (!b)) (by simp only [Sem.run_bind, g, Result.andThen_ok]; exact (bin_eqlS w hq).2) (.d (.bool _))
      · cases hx
    · cases hx
  · exact bin_ok F hx hc r r2

theorem un_ok {κ : Kap} {φ : Phi} {w : World} {s : SSt} {a : Act} (F : FRel κ φ w s a) {op : UnOp} {x : RV} {v : Value} {res : Res}
    (hx : exUn op x = some res) (r : RVR κ φ s.O w.heap x v) : Out P κ φ w s a res.val res.upd (Op.unary op v) := by
  unfold exUn at hx
  split at hx
  · injection hx with hx; subst hx
    cases r with
    | d hr => cases hr; exact Out.pure F (by simp only [Op.unary]; rfl) (.d (.bool _))
  · injection hx with hx; subst hx
    cases r with
    | d hr => cases hr; exact Out.pure F (by simp only [Op.unary, Op.intArith]; rfl) (.d (.int _ _))
  · injection hx with hx; subst hx
    cases r with
    | d hr => cases hr; exact Out.pure F (by simp only [Op.unary, Op.intBits]; rfl) (.d (by simp only [bits]; exact .int _ _))
  · simp at hx

theorem goInt_DR {κ : Kap} {h : Heap} (n : Int) : DR κ h (.int .i64 n) (goInt n) := .int _ _

theorem len_ok {κ : Kap} {φ : Phi} {w : World} {s : SSt} {a : Act} (F : FRel κ φ w s a) {t : Nat} {x : RV} {v : Value} {res : Res} {ty : Nat}
    (hx : exLen (Env.of P) s.O t x = some res) (r : RVR κ φ s.O w.heap x v) : Out P κ φ w s a res.val res.upd (Builtin.len_ #[t] ty #[v]) := by
  have st : ∀ (d : TypeDesc) (n : Nat), (Env.of P).und t = some d →
      ((match d, v with
        | .string, .string s => pure (goInt s.size)
        | .array n _, _ => pure (goInt n)
        | .slice _, .slice _ n _ => pure (goInt n)
        | .map _ _, .map none => pure (goInt 0)
        | .map _ _, .map (some r) => do
          let .map entries _ ← getObj r | stuck "len: map expected"
          pure (goInt entries.size)
        | _, _ => stuck "") : Sem Value).run P w = .ok (goInt n) w → (Builtin.len_ #[t] ty #[v]).run P w = .ok (goInt n) w := by
    intro d n hu hrun
    simp only [Builtin.len_]
    rw [show (#[t] : Array TypeId)[0]? = some t from rfl, show (#[v] : Array Value)[0]? = some v from rfl]
    simp only [Sem.run_bind, run_und hu, Result.andThen_ok]
    rw [← hrun]
    cases d <;> cases v <;> first | rfl | (simp [stuck] at hrun; done) | skip
    all_goals (try (rename_i o; cases o <;> first | rfl | (simp [stuck] at hrun; done)))
  have sl : ∀ sz els, (∃ e, (Env.of P).und t = some (.slice e)) → SlOk κ w.heap v sz els → Out P κ φ w s a (.d (.int .i64 (els.length : Int))) [] (Builtin.len_ #[t] ty #[v]) := by
    rintro sz els ⟨e, hu⟩ ⟨base, cap, rfl, _, _⟩
    exact Out.pure F (st _ els.length hu rfl) (.d (goInt_DR _))
  unfold exLen at hx
  split at hx
  · rename_i hu
    injection hx with hx; subst hx
    cases r with
    | d hr =>
      cases hr
      rename_i str
      exact Out.pure F (st _ str.length hu (by simp [ByteArray.size])) (.d (goInt_DR _))
  · rename_i hu
    injection hx with hx; subst hx
    cases r with
    | d hr => exact sl _ _ ⟨_, hu⟩ hr.slOk
  · rename_i e i sz hu
    cases hO : s.O i with
    | none => rw [hO] at hx; simp at hx
    | some p =>
      rw [hO] at hx
      cases p <;> (try simp only at hx) <;> try (simp at hx; done)
      all_goals
        rename_i sz' els
        injection hx with hx; subst hx
        cases r with
        | own hφ hb hcap hlc hlen =>
          have := hlen els.length (by rw [hO]; rfl)
          subst this
          exact Out.pure F (st _ els.length hu rfl) (.d (goInt_DR _))
        | ownNil hφ =>
          have ho := F.objs i
          rw [hO] at ho
          rcases arr_or (by first | exact .inl ⟨_, ho⟩ | exact .inr ho) with ⟨h1, h2⟩ | ⟨b, c, ty, fz, h1, h3, h5⟩
          · subst h2; exact Out.pure F (st _ 0 hu rfl) (.d (goInt_DR _))
          · rw [h1] at hφ; cases hφ
  · rename_i e i sz off len hu
    injection hx with hx; subst hx
    cases r with
    | sub hφ hb hcap hlc => exact Out.pure F (st _ len hu rfl) (.d (goInt_DR _))
    | sub0 hφ => exact Out.pure F (st _ 0 hu rfl) (.d (goInt_DR _))
  · rename_i n e hu
    injection hx with hx; subst hx
    exact Out.pure F (st _ n hu (by cases v <;> rfl)) (.d (goInt_DR _))
  · rename_i hu
    injection hx with hx; subst hx
    cases r with
    | d hr => cases hr; exact Out.pure F (st _ 0 hu rfl) (.d (goInt_DR _))
  · rename_i i hu
    cases hO : s.O i with
    | none => rw [hO] at hx; simp at hx
    | some p =>
      rw [hO] at hx
      cases p <;> (try simp only at hx) <;> try (simp at hx; done)
      rename_i es
      injection hx with hx; subst hx
      cases r with
      | map hφ =>
        have ho := F.objs i
        rw [hO] at ho
        obtain ⟨b, mes, clock, h1, h2, h3, h4, h5⟩ := ho
        rw [h1] at hφ; injection hφ with hφ; subst hφ
        exact Out.pure F (st _ es.length hu (by simp [getObj, Sem.run, h3, h4.1])) (.d (goInt_DR _))
  · simp at hx

theorem minmax_ok {κ : Kap} {φ : Phi} {w : World} {s : SSt} {a : Act} (F : FRel κ φ w s a) {mn : Bool} {x y : RV} {v u : Value} {res : Res} {tys : Array TypeId} {ty : Nat}
    (hx : exMinMax mn x y = some res) (r : RVR κ φ s.O w.heap x v) (r2 : RVR κ φ s.O w.heap y u) :
    Out P κ φ w s a res.val res.upd (if mn then Builtin.min_ tys ty #[v, u] else Builtin.max_ tys ty #[v, u]) := by
  unfold exMinMax at hx
  split at hx
  · injection hx with hx; subst hx
    cases r with
    | d hr =>
    cases r2 with
    | d hr2 =>
    cases hr; cases hr2
    cases mn
    · exact Out.pure F (by simp only [Builtin.max_, Builtin.max2, List.foldlM_cons, List.foldlM_nil]; rfl) (.d (.int _ _))
    · exact Out.pure F (by simp only [Builtin.min_, Builtin.min2, List.foldlM_cons, List.foldlM_nil]; rfl) (.d (.int _ _))
  · simp at hx

end Go.Am

/-
  The abstract machine: each operation is sound (slices cut, conversions, make).
-/
namespace Go.Am
variable {P : Program}

inductive ORel (κ : Kap) (φ : Phi) (O : Tab) (h : Heap) : Option RV → Option Value → Prop where
  | none : ORel κ φ O h none none
  | some {x : RV} {v : Value} (r : RVR κ φ O h x v) : ORel κ φ O h (some x) (some v)

theorem intOf_val {κ : Kap} {φ : Phi} {O : Tab} {h : Heap} {x : Option RV} {v : Option Value} {n : Option Int} (hx : intOf' x = some n) (r : ORel κ φ O h x v) :
    (n = none ∧ v = none) ∨ ∃ k m, n = some m ∧ v = some (.int k m) := by
  cases r with
  | none => simp [intOf'] at hx; exact .inl ⟨hx.symm, rfl⟩
  | some r =>
    rename_i x v
    cases x <;> simp only [intOf'] at hx <;> try (simp at hx; done)
    rename_i d
    cases d <;> (try simp only at hx) <;> try (simp at hx; done)
    injection hx with hx; subst hx
    cases r with
    | d hr => cases hr; exact .inr ⟨_, _, rfl, rfl⟩

theorem run_bound {k : IntKind} {n : Int} {y : Nat} {c : BoundsCode} (h : 0 ≤ n ∧ n ≤ (y : Int)) (w : World) : (Instr.sliceBound (.int k n) y c).run P w = .ok n.toNat w := by
  simp only [Instr.sliceBound, asIntOf, Sem.run_bind, Sem.run_pure, Result.andThen_ok]
  rw [if_pos h]; rfl

theorem run_bounds {isSlice : Bool} {len cap : Nat} {lo hi : Option Int} {lov hiv : Option Value}
    (hlo : (lo = none ∧ lov = none) ∨ ∃ k m, lo = some m ∧ lov = some (.int k m)) (hhi : (hi = none ∧ hiv = none) ∨ ∃ k m, hi = some m ∧ hiv = some (.int k m))
    (hc : ∀ b ∈ bnds len lo hi, b = true) (hle : len ≤ cap) (w : World) :
    (Instr.sliceBounds isSlice len cap lov hiv none).run P w = .ok (loOf lo, hiOf len hi, cap) w ∧ loOf lo ≤ hiOf len hi ∧ hiOf len hi ≤ len := by
  rcases hlo with ⟨rfl, rfl⟩ | ⟨k, m, rfl, rfl⟩ <;> rcases hhi with ⟨rfl, rfl⟩ | ⟨k', m', rfl, rfl⟩
  · exact ⟨by simp [Instr.sliceBounds, loOf, hiOf], by simp [loOf], Nat.le_refl _⟩
  · have h1 : 0 ≤ m' ∧ m' ≤ (len : Int) := by simpa [bnds] using hc
    refine ⟨?_, by simp [loOf], by simp only [hiOf]; omega⟩
    simp only [Instr.sliceBounds, Sem.run_bind, Sem.run_pure, Result.andThen_ok, run_bound (P := P) (k := k') (show 0 ≤ m' ∧ m' ≤ (cap : Int) by omega), loOf, hiOf]
  · have h1 : 0 ≤ m ∧ m ≤ (len : Int) := by simpa [bnds] using hc
    refine ⟨?_, by simp only [loOf, hiOf]; omega, Nat.le_refl _⟩
    simp only [Instr.sliceBounds, Sem.run_bind, Sem.run_pure, Result.andThen_ok, run_bound (P := P) (k := k) h1, loOf, hiOf]
  · have h1 : (0 ≤ m' ∧ m' ≤ (len : Int)) ∧ 0 ≤ m ∧ m ≤ ((m'.toNat : Nat) : Int) := ⟨by simpa using hc (decide (0 ≤ m' ∧ m' ≤ (len : Int))) (by simp [bnds]), by simpa using hc (decide (0 ≤ m ∧ m ≤ ((m'.toNat : Nat) : Int))) (by simp [bnds])⟩
    refine ⟨?_, by simp only [loOf, hiOf]; omega, by simp only [hiOf]; omega⟩
    simp only [Instr.sliceBounds, Sem.run_bind, Sem.run_pure, Result.andThen_ok, run_bound (P := P) (k := k') (show 0 ≤ m' ∧ m' ≤ (cap : Int) by omega), run_bound (P := P) (k := k) h1.2, loOf, hiOf]

theorem cutL_eq {α : Type} (s : List α) (lo hi : Option Int) (h : hiOf s.length hi ≤ s.length) : cutL s lo hi = (s.drop (loOf lo)).take (hiOf s.length hi - loOf lo) := by
  cases lo <;> cases hi <;> simp only [cutL, loOf, hiOf] at *
  · simp
  · simp
  · rename_i l; rw [List.take_of_length_le (by simp)]
  · rw [List.drop_take]

theorem ba_extract (s : List UInt8) (l h : Nat) : (⟨s.toArray⟩ : ByteArray).extract l h = ⟨((s.drop l).take (h - l)).toArray⟩ := by
  apply ByteArray.ext
  simp [ByteArray.data_extract]

theorem slice_ok {κ : Kap} {φ : Phi} {w : World} {s : SSt} {a : Act} (F : FRel κ φ w s a) {t : Nat} {x : RV} {lo hi mx : Option RV} {v : Value} {lov hiv mxv : Option Value} {res : Res}
    (hx : exSlice (Env.of P) s.O t x lo hi mx = some res) (hc : ∀ b ∈ res.conds, b = true) (r : RVR κ φ s.O w.heap x v)
    (rlo : ORel κ φ s.O w.heap lo lov) (rhi : ORel κ φ s.O w.heap hi hiv) (rmx : ORel κ φ s.O w.heap mx mxv) :
    Out P κ φ w s a res.val res.upd (Instr.sliceAt t v lov hiv mxv) := by
  unfold exSlice at hx
  split at hx
  · -- no third bound
    rename_i l h hl hh
    cases rmx
    have vl := intOf_val hl rlo
    have vh := intOf_val hh rhi
    split at hx
    · -- a text
      rename_i str hu
      injection hx with hx; subst hx
      cases r with
      | d hr =>
        cases hr
        obtain ⟨b1, b2, b3⟩ := run_bounds (P := P) (isSlice := false) (cap := str.length) vl vh hc (Nat.le_refl _) w
        refine Out.pure F (v := .string ⟨(cutL str l h).toArray⟩) ?_ (.d (.str _))
        simp only [Instr.sliceAt, Instr.slice, Sem.run_bind, run_und hu, Result.andThen_ok]
        have hsz : (⟨str.toArray⟩ : ByteArray).size = str.length := by simp [ByteArray.size]
        simp only [Option.isSome_none, Bool.false_eq_true, if_false, Sem.run_bind, Sem.run_pure, Result.andThen_ok, hsz, b1, ba_extract]
        rw [cutL_eq _ _ _ b3]
    · -- data
      rename_i e sz els full hu
      cases hz : (Env.of P).size e with
      | none => rw [hz] at hx; simp at hx
      | some z =>
        rw [hz] at hx; simp only at hx
        cases hg : (Nat.beq sz z || els.isEmpty) with
        | false => rw [hg] at hx; simp at hx
        | true =>
          rw [hg] at hx; simp only [cond_true, Option.some.injEq] at hx; subst hx
          cases r with
          | d hr =>
          have hrun : ∀ base cap, els.length ≤ cap → v = .slice base els.length cap → (Instr.sliceAt t v lov hiv none).run P w = .ok (.slice (if cap = loOf l then base else base.map (·.add (loOf l * z))) (hiOf els.length h - loOf l) (cap - loOf l)) w := by
            rintro base cap hcap rfl
            obtain ⟨b1, b2, b3⟩ := run_bounds (P := P) (isSlice := true) vl vh hc hcap w
            simp only [Instr.sliceAt, Instr.slice, Sem.run_bind, run_und hu, Result.andThen_ok, b1, run_sizeOf' hz, Sem.run_pure]
          obtain ⟨_, b2, b3⟩ := run_bounds (P := P) (isSlice := true) vl vh hc (Nat.le_refl _) w
          have hcl := cutL_eq els l h b3
          by_cases hemp : hiOf els.length h - loOf l = 0
          · obtain ⟨base, cap, rfl, hcap, _⟩ := hr.slOk
            refine Out.pure F (hrun base cap hcap rfl) (.d ?_)
            rw [hcl, hemp]
            simp only [List.take_zero]
            refine .lst0 (fun hf => ?_)
            cases h with
            | some h => simp at hf
            | none =>
              simp only at hf
              simp only [hiOf] at hemp
              have : cap = els.length ∧ (sz = 0 → base = none) := by
                cases hr with
                | lst0 hf' => exact ⟨by simp [(hf' hf).1], (hf' hf).2⟩
                | lst _ _ hf' _ _ _ _ => exact ⟨(hf' hf).1, fun e => by have := (hf' hf).2; omega⟩
              refine ⟨by omega, fun e => ?_⟩
              rw [this.2 e]; split <;> rfl
          · cases hr with
            | lst0 hf => simp only [hiOf, List.length_nil] at hemp b3; omega
            | lst hκ hb hf hcp hs hz' hr' =>
              rename_i b off cap c ty fz
              have hzz : sz = z := by
                simp only [Bool.or_eq_true] at hg
                rcases hg with hg | hg
                · exact nbE hg
                · have : els = [] := by simpa using hg
                  subst this; simp only [hiOf, List.length_nil] at hemp b3; omega
              subst hzz
              have hne : cap ≠ loOf l := by omega
              refine Out.pure F (hrun _ cap hcp rfl) (.d ?_)
              rw [if_neg hne]
              simp only [Option.map_some, add_at]
              have hlen : (cutL els l h).length = hiOf els.length h - loOf l := by rw [hcl]; simp; omega
              have hel : EL κ w.heap c off sz els := ⟨hz', by have := Nat.mul_le_mul_right sz hcp; omega, hr'⟩
              rcases hel.part (loOf l) (hiOf els.length h - loOf l) with hp | hp
              · rw [← hcl] at hp
                rw [← hlen]
                refine .lst hκ hb (fun hf' => ?_) (by omega) ?_ hp.1 hp.2.2
                · cases h with
                  | some h => simp at hf'
                  | none => simp only at hf'; have := hf hf'; simp only [hiOf] at hlen; omega
                · have : (loOf l + (cap - loOf l)) * sz = cap * sz := by congr 1; omega
                  rw [Nat.add_mul] at this; omega
              · rw [← hcl] at hp; rw [hp] at hlen; simp at hlen; omega
    · -- one's own
      rename_i e i sz hu
      have fin : ∀ els, ((∃ ty, s.O i = some (.arr ty sz els)) ∨ s.O i = some (.frz sz els)) → (Env.of P).size e = some sz → (∀ b ∈ bnds els.length l h, b = true) →
          Out P κ φ w s a (.sub i sz (loOf l) (hiOf els.length h - loOf l)) [] (Instr.sliceAt t v lov hiv none) := by
        intro els hO hz hcc
        have hso := own_slOk hO (F.objs i) r
        cases r with
        | own hφ hb hcap hlc hlen =>
          rename_i b len cap c ty fz
          have hl' := hlen els.length (by rcases hO with ⟨_, e⟩ | e <;> rw [e] <;> rfl)
          subst hl'
          obtain ⟨b1, b2, b3⟩ := run_bounds (P := P) (isSlice := true) vl vh hcc hlc w
          have hrun : (Instr.sliceAt t (.slice (some ⟨b, 0, none⟩) els.length cap) lov hiv none).run P w = .ok (.slice (if cap = loOf l then (some ⟨b, 0, none⟩) else some ⟨b, loOf l * sz, none⟩) (hiOf els.length h - loOf l) (cap - loOf l)) w := by
            simp only [Instr.sliceAt, Instr.slice, Sem.run_bind, run_und hu, Result.andThen_ok, b1, run_sizeOf' hz, Sem.run_pure, Option.map_some, add_at, Nat.zero_add]
          refine Out.pure F hrun ?_
          by_cases hne : cap = loOf l
          · rw [if_pos hne, show hiOf els.length h - loOf l = 0 by omega, show cap - loOf l = 0 by omega]
            exact .sub0 (by rw [hφ]; simp)
          · rw [if_neg hne]
            exact .sub hφ hb (by rw [show loOf l + (cap - loOf l) = cap by omega]; exact hcap) (by omega)
        | ownNil hφ =>
          rename_i base
          have he : els = [] := by
            obtain ⟨base', cap', e1, _⟩ := hso
            injection e1 with e1 e2 e3
            exact List.eq_nil_of_length_eq_zero e2.symm
          subst he
          obtain ⟨b1, b2, b3⟩ := run_bounds (P := P) (isSlice := true) (cap := 0) vl vh hcc (Nat.le_refl _) w
          simp only [List.length_nil] at b1 b2 b3
          have hrun : (Instr.sliceAt t (.slice base 0 0) lov hiv none).run P w = .ok (.slice base 0 0) w := by
            simp only [Instr.sliceAt, Instr.slice, Sem.run_bind, run_und hu, Result.andThen_ok, b1, run_sizeOf' hz, Sem.run_pure]
            rw [show hiOf 0 h = 0 by omega, show loOf l = 0 by omega]; simp
          refine Out.pure F hrun ?_
          simp only [List.length_nil]
          rw [show hiOf 0 h - loOf l = 0 by omega]
          exact .sub0 (by rw [hφ]; simp)
      cases hO : s.O i with
      | none => rw [hO] at hx; simp at hx
      | some p =>
        rw [hO] at hx
        cases hz : (Env.of P).size e with
        | none => rw [hz] at hx; cases p <;> simp at hx
        | some z =>
          rw [hz] at hx
          cases p <;> (try simp only at hx) <;> try (simp at hx; done)
          all_goals
            rename_i sz' els
            cases hb : (Nat.beq sz' sz && Nat.beq sz z) with
            | false => rw [hb] at hx; simp at hx
            | true =>
              rw [hb] at hx; simp only [cond_true, Option.some.injEq] at hx; subst hx
              simp only [Bool.and_eq_true] at hb
              have := nbE hb.1; subst this
              have := nbE hb.2; subst this
              exact fin els (by simp [hO]) hz hc
    · -- a part of one's own
      rename_i e i sz off len hu
      cases hz : (Env.of P).size e with
      | none => rw [hz] at hx; simp at hx
      | some z =>
        rw [hz] at hx; simp only at hx
        cases hb : Nat.beq sz z with
        | false => rw [hb] at hx; simp at hx
        | true =>
          have := nbE hb; subst this
          rw [hb] at hx; simp only [cond_true, Option.some.injEq] at hx; subst hx
          cases r with
          | sub hφ hb hcap hlc =>
            rename_i cap b c ty fz
            obtain ⟨b1, b2, b3⟩ := run_bounds (P := P) (isSlice := true) vl vh hc hlc w
            have hrun : (Instr.sliceAt t (.slice (some ⟨b, off * sz, none⟩) len cap) lov hiv none).run P w = .ok (.slice (if cap = loOf l then (some ⟨b, off * sz, none⟩) else some ⟨b, off * sz + loOf l * sz, none⟩) (hiOf len h - loOf l) (cap - loOf l)) w := by
              simp only [Instr.sliceAt, Instr.slice, Sem.run_bind, run_und hu, Result.andThen_ok, b1, run_sizeOf' hz, Sem.run_pure, Option.map_some, add_at]
            refine Out.pure F hrun ?_
            by_cases hne : cap = loOf l
            · rw [if_pos hne, show hiOf len h - loOf l = 0 by omega, show cap - loOf l = 0 by omega]
              exact .sub0 (by rw [hφ]; simp)
            · rw [if_neg hne, ← Nat.add_mul]
              exact .sub hφ hb (by rw [show off + loOf l + (cap - loOf l) = off + cap by omega]; exact hcap) (by omega)
          | sub0 hφ =>
            rename_i base
            obtain ⟨b1, b2, b3⟩ := run_bounds (P := P) (isSlice := true) (cap := 0) vl vh hc (Nat.le_refl _) w
            have hrun : (Instr.sliceAt t (.slice base 0 0) lov hiv none).run P w = .ok (.slice base 0 0) w := by
              simp only [Instr.sliceAt, Instr.slice, Sem.run_bind, run_und hu, Result.andThen_ok, b1, run_sizeOf' hz, Sem.run_pure]
              rw [show hiOf 0 h = 0 by omega, show loOf l = 0 by omega]; simp
            refine Out.pure F hrun ?_
            rw [show hiOf 0 h - loOf l = 0 by omega]
            exact .sub0 hφ
    · -- an array variable
      rename_i n e i off hu
      cases hO : s.O i with
      | none => rw [hO] at hx; simp at hx
      | some p =>
        rw [hO] at hx
        cases hz : (Env.of P).size e with
        | none => rw [hz] at hx; cases p <;> simp at hx
        | some z =>
          rw [hz] at hx
          cases p <;> (try simp only at hx) <;> try (simp at hx; done)
          rename_i sz els
          cases hb : (Nat.beq sz z && Nat.beq off 0) with
          | false => rw [hb] at hx; simp at hx
          | true =>
            rw [hb] at hx; simp only [cond_true, Option.some.injEq] at hx; subst hx
            simp only [Bool.and_eq_true] at hb
            have := nbE hb.1; subst this
            have := nbE hb.2; subst this
            have hn : els.length = n := by simpa using hc (decide (els.length = n)) (by simp)
            cases r with
            | ptr hφ =>
              rename_i b
              obtain ⟨b1, b2, b3⟩ := run_bounds (P := P) (isSlice := false) (cap := n) vl vh (fun b hb => hc b (by simp [hb])) (Nat.le_refl _) w
              have ho := F.objs i
              rw [hO] at ho
              rcases ho with ⟨h1, h2⟩ | ⟨b', c, fz, h1, h2, h3, h4, h5⟩
              · rw [h1] at hφ; cases hφ
              · have hφ' := hφ
                rw [h1] at hφ'; injection hφ' with hφ'; subst hφ'
                have hrun : (Instr.sliceAt t (.pointer (some ⟨b', 0, none⟩)) lov hiv none).run P w = .ok (.slice (some (if n = loOf l then ⟨b', 0, none⟩ else ⟨b', loOf l * sz, none⟩)) (hiOf n h - loOf l) (n - loOf l)) w := by
                  simp only [Instr.sliceAt, Sem.run_bind, run_und hu, Result.andThen_ok, Instr.sureAddr, Sem.run_pure, b1, run_sizeOf' hz, add_at, Nat.zero_add]
                refine Out.pure F hrun ?_
                by_cases hne : n = loOf l
                · rw [if_pos hne, show hiOf n h - loOf l = 0 by omega, show n - loOf l = 0 by omega]
                  exact .sub0 (by rw [hφ]; simp)
                · rw [if_neg hne]
                  exact .sub hφ h3 (by rw [show loOf l + (n - loOf l) = n by omega, ← hn]; have := h5.2.1; omega) (by omega)
    · simp at hx
  · -- a third bound
    rename_i h k m hl hh
    have vl := intOf_val hl rlo
    have vh := intOf_val hh rhi
    split at hx
    · rename_i e sz els full hu
      cases hz : (Env.of P).size e with
      | none => rw [hz] at hx; simp at hx
      | some z =>
        rw [hz] at hx; simp only at hx
        cases hg : ((Nat.beq sz z || els.isEmpty) && (Nat.ble 1 sz || full)) with
        | false => rw [hg] at hx; simp at hx
        | true =>
          rw [hg] at hx; simp only [cond_true, Option.some.injEq] at hx; subst hx
          simp only [Bool.and_eq_true] at hg
          obtain ⟨hg, hfull⟩ := hg
          have hfull : 1 ≤ sz ∨ full = true := by
            simp only [Bool.or_eq_true] at hfull
            rcases hfull with h | h
            · exact .inl (Nat.le_of_ble_eq_true h)
            · exact .inr h
          have h1 : 0 ≤ h ∧ h ≤ m := by simpa using hc (decide (0 ≤ h ∧ h ≤ m)) (by simp)
          have h2 : m ≤ (els.length : Int) := by simpa using hc (decide (m ≤ (els.length : Int))) (by simp)
          rcases vl with ⟨_, rfl⟩ | ⟨_, _, e1, _⟩
          · rcases vh with ⟨e1, _⟩ | ⟨k', m', e1, rfl⟩
            · cases e1
            · injection e1 with e1; subst e1
              cases rmx with
              | some rm =>
              cases rm with
              | d hrm =>
              cases hrm
              cases r with
              | d hr =>
              obtain ⟨base, cap, rfl, hcap, hrest⟩ := hr.slOk
              clear hrest
              have hrun : (Instr.sliceAt t (.slice base els.length cap) none (some (.int k' h)) (some (.int k m))).run P w = .ok (.slice (if m.toNat = 0 then base else base.map (·.add (0 * z))) (h.toNat - 0) (m.toNat - 0)) w := by
                simp only [Instr.sliceAt, Instr.slice, Sem.run_bind, run_und hu, Result.andThen_ok, Instr.sliceBounds, run_bound (P := P) (k := k) (show 0 ≤ m ∧ m ≤ (cap : Int) by omega),
                  run_bound (P := P) (k := k') (show 0 ≤ h ∧ h ≤ ((m.toNat : Nat) : Int) by omega), Sem.run_pure, run_sizeOf' hz]
              have hbase : (if m.toNat = 0 then base else base.map (·.add (0 * z))) = base := by
                split
                · rfl
                · cases base <;> simp [Addr.add]
              rw [hbase] at hrun
              refine Out.pure F hrun (.d ?_)
              have htl : (els.take h.toNat).length = h.toNat := by simp; omega
              simp only [Nat.sub_zero]
              by_cases h0 : h.toNat = 0
              · rw [h0]; simp only [List.take_zero]
                refine .lst0 (fun hf => ⟨by have : h = m := (by simpa using hf); omega, fun e => ?_⟩)
                rcases hfull with hfull | hfull
                · omega
                · cases hr with
                  | lst0 hf' => exact (hf' hfull).2 e
                  | lst _ _ hf' _ _ _ _ => have := (hf' hfull).2; omega
              · cases hr with
                | lst0 hf => simp at h2; omega
                | lst hκ hb hf hcp hs hz' hr' =>
                  rename_i b off c ty fz
                  have hel : EL κ w.heap c off sz els := ⟨hz', by have := Nat.mul_le_mul_right sz hcp; omega, hr'⟩
                  rcases hel.part 0 h.toNat with hp | hp
                  · simp only [List.drop_zero, Nat.zero_mul, Nat.add_zero] at hp
                    have := DR.lst (κ := κ) (h := w.heap) (full := decide (h = m)) (cap := m.toNat) hκ hb (fun hf' => ⟨by have : h = m := (by simpa using hf'); omega, by
                      rcases hfull with hfull | hfull
                      · exact hfull
                      · exact (hf hfull).2⟩) (by omega)
                      (by have := Nat.mul_le_mul_right sz (show m.toNat ≤ cap by omega); omega) hp.1 hp.2.2
                    rw [htl] at this; exact this
                  · simp only [List.drop_zero] at hp; rw [hp] at htl; simp at htl; omega
          · cases e1
    · simp at hx
  · simp at hx


theorem byte_of {x : DV} (h : x.isByte = true) : ∃ n, x = .int .u8 n := by
  cases x <;> try (simp [DV.isByte] at h; done)
  rename_i k n
  cases k <;> first | exact ⟨n, rfl⟩ | (simp [DV.isByte] at h)

theorem bytes_loop (f : Value → ByteArray → Sem (ForInStep ByteArray)) (hf : ∀ n s, f (.int .u8 n) s = pure (ForInStep.yield (s.push (UInt8.ofNat n.toNat)))) :
    ∀ (l : List Value) (ds : List DV) (acc : ByteArray) (w : World), l.length = ds.length → (∀ (i : Nat) (x : DV) (v : Value), ds[i]? = some x → l[i]? = some v → ∃ n, x = .int .u8 n ∧ v = .int .u8 n) →
    (forIn l acc f : Sem ByteArray).run P w = .ok ⟨acc.data ++ (ds.map DV.byte).toArray⟩ w
  | [], ds, acc, w, hl, _ => by
    have : ds = [] := List.eq_nil_of_length_eq_zero (by simpa using hl.symm)
    subst this; simp
  | v :: l, ds, acc, w, hl, h => by
    cases ds with
    | nil => simp at hl
    | cons x ds =>
      obtain ⟨n, rfl, rfl⟩ := h 0 x v rfl rfl
      have ih := bytes_loop f hf l ds (acc.push (UInt8.ofNat n.toNat)) w (by simpa using hl) (fun i x v hx hv => h (i + 1) x v (by simpa using hx) (by simpa using hv))
      simp only [List.forIn_cons, hf, Sem.run_bind, Sem.run_pure, Result.andThen_ok]
      refine ih.trans ?_
      congr 2
      simp [DV.byte, ByteArray.push]

theorem conv_ok {κ : Kap} {φ : Phi} {w : World} {s : SSt} {a : Act} (F : FRel κ φ w s a) {sl src dst : Nat} {x : RV} {v : Value} {res : Res}
    (hx : exConv (Env.of P) s.O sl src dst x = some res) (hc : ∀ b ∈ res.conds, b = true) (r : RVR κ φ s.O w.heap x v) : Out P κ φ w s a res.val res.upd (convert src dst v) := by
  unfold exConv at hx
  split at hx
  · rename_i ds k k0 n hs hd
    injection hx with hx; subst hx
    cases r with
    | d hr =>
      cases hr
      refine Out.pure F (v := .int k (k.wrap n)) ?_ (.d (.int _ _))
      simp only [convert, Sem.run_bind, run_und hs, run_und hd, Result.andThen_ok, Conv.intToInt, Sem.run_pure]
  · rename_i ds str hs hd
    injection hx with hx; subst hx
    cases r with
    | d hr =>
      cases hr
      refine Out.pure F (v := .string ⟨str.toArray⟩) ?_ (.d (.str _))
      simp only [convert, Sem.run_bind, run_und hs, run_und hd, Result.andThen_ok, Sem.run_pure]
  · rename_i ds e str hs hd
    cases hu8 : isU8 ((Env.of P).und e) with
    | false => rw [hu8] at hx; simp at hx
    | true =>
      rw [hu8] at hx; simp only [cond_true] at hx
      have hue : (Env.of P).und e = some (.int .u8) := by
        unfold isU8 at hu8; split at hu8
        · assumption
        · simp at hu8
      split at hx
      · rename_i hO hz
        injection hx with hx; subst hx
        cases r with
        | d hr =>
        cases hr
        have hsz : (⟨str.toArray⟩ : ByteArray).size = str.length := by simp [ByteArray.size]
        generalize hcap : str.length + w.tape w.drawn (.appendCap str.length 0 e) % (2 ^ 63 - str.length) = cap
        have hcl : str.length ≤ cap := by omega
        have hC : (str.toArray.map (fun b => Value.int .u8 b.toNat) ++ Array.replicate (cap - str.length) (Value.int .u8 0)).size = cap := by simp; omega
        generalize hCd : str.toArray.map (fun b => Value.int .u8 b.toNat) ++ Array.replicate (cap - str.length) (Value.int .u8 0) = C at hC
        have hrun : (convert src dst (.string ⟨str.toArray⟩)).run P w = .ok (.slice (some ⟨w.heap.size, 0, none⟩) str.length cap) { w with drawn := w.drawn + 1, heap := w.heap.push (.cells C e (cap, cap + 1)) } := by
          simp only [convert, Sem.run_bind, run_und hs, run_und hd, run_und hue, Result.andThen_ok, Conv.stringToBytes, hsz, run_choose, Question.forced, Question.cut, Bool.false_eq_true, if_false, hcap, hCd,
            newRow, run_newObj, Sem.run_pure, markStringish, run_shape, World.shape?, heap_push_eq, hC, run_freeze, World.freeze]
          rw [if_neg (by omega)]
          congr 2
          apply Array.ext_getElem?
          intro j
          rw [Array.getElem?_modify]
          by_cases e : w.heap.size = j
          · subst e; simp
          · rw [if_neg e]
            rcases Nat.lt_or_ge j w.heap.size with h | h
            · rw [heap_push_lt h, heap_push_lt h]
            · rw [Array.getElem?_eq_none (by simp; omega), Array.getElem?_eq_none (by simp; omega)]
        obtain ⟨q1, q2, q3⟩ := F.alloc (i := sl) (p := .arr e 1 (u8s str)) (o := .cells C e (cap, cap + 1)) (w' := { w with drawn := w.drawn + 1, heap := w.heap.push (.cells C e (cap, cap + 1)) }) rfl hO
          (fun M => .inr ⟨_, _, _, setP_same _ _ _, setK_same _ _ _, heap_push_eq _ _, fun o ho h => by rw [hC] at ho; omega, u8s_ok str, by rw [hC]; simp [u8s]; exact hcl, fun i x j y v hx hy hv => by
            obtain ⟨b, hb, rfl⟩ := u8s_get str i x hx
            have hlt := (List.getElem?_eq_some_iff.1 hb).1
            cases j with
            | zero =>
              simp [DV.cells] at hy; subst hy
              rw [← hCd] at hv
              rw [Array.getElem?_append_left (by simp; omega)] at hv
              simp [hb] at hv
              subst hv; exact .int _ _
            | succ j => simp [DV.cells] at hy⟩)
        refine ⟨_, _, _, setP φ sl (.at w.heap.size), hrun, q1, ?_, q3, q2.kp⟩
        exact .own (setP_same _ _ _) (heap_push_eq _ _) (by rw [hC]; omega) hcl (fun n hn => by
          have : PObj.len? (setT s.O sl (some (.arr e 1 (u8s str))) sl) = some n := hn
          rw [setT_same] at this; simp [PObj.len?, u8s] at this; omega)
      · simp at hx
  · rename_i x _ _ _ e hs hd hne
    cases hu8 : isU8 ((Env.of P).und e) with
    | false => rw [hu8] at hx; simp at hx
    | true =>
      rw [hu8] at hx; simp only [cond_true] at hx
      have hue : (Env.of P).und e = some (.int .u8) := by
        unfold isU8 at hu8; split at hu8
        · assumption
        · simp at hu8
      cases hel : elsOf s.O x with
      | none => rw [hel] at hx; simp at hx
      | some p3 =>
        obtain ⟨sz, els, cc⟩ := p3
        rw [hel] at hx; simp only at hx
        cases hg : (Nat.beq sz 1 || els.isEmpty) with
        | false => rw [hg] at hx; simp at hx
        | true =>
          rw [hg] at hx; simp only [cond_true, Option.some.injEq] at hx; subst hx
          have hby : els.all DV.isByte = true := hc _ (by simp)
          obtain ⟨base, cap, rfl, hcap, hsl⟩ := elsOf_ok F hel (fun b hb => hc b (by simp [hb])) r
          refine Out.pure F (v := .string ⟨(els.map DV.byte).toArray⟩) ?_ (.d (.str _))
          have hconv : (convert src dst (.slice base els.length cap)).run P w = (Conv.bytesToString (.slice base els.length cap)).run P w := by
            cases base <;> simp only [convert, Sem.run_bind, run_und hs, run_und hd, run_und hue, Result.andThen_ok]
          rw [hconv]
          rcases hsl with rfl | ⟨b, off, c, ty, fz, rfl, hb, hel2, hs2⟩
          · cases base with
            | none => simp only [Conv.bytesToString, Sem.run_pure]; rfl
            | some b => simp [Conv.bytesToString, loadCells, loadCellsFrom]; rfl
          · by_cases he : els = []
            · subst he; simp [Conv.bytesToString, loadCells, loadCellsFrom]; rfl
            · have hsz : sz = 1 := by
                simp only [Bool.or_eq_true] at hg
                rcases hg with hg | hg
                · exact nbE hg
                · exact absurd (by simpa using hg) he
              subst hsz
              obtain ⟨e1, e2, e3⟩ := hel2
              simp only [Conv.bytesToString, Sem.run_bind, run_loadCells_at hb (show off + els.length ≤ c.size by omega), Result.andThen_ok]
              rw [← Array.forIn_toList]
              have hll : (c.extract off (off + els.length)).toList.length = els.length := by simp; omega
              rw [bytes_loop (P := P) _ (fun _ _ => rfl) (c.extract off (off + els.length)).toList els ByteArray.empty w hll (fun i x v hx hv => by
                have hlt := (List.getElem?_eq_some_iff.1 hx).1
                obtain ⟨n, rfl⟩ := byte_of (List.all_eq_true.1 hby x (List.mem_iff_getElem?.2 ⟨i, hx⟩))
                simp only [Array.getElem?_toList, Array.getElem?_extract] at hv
                split at hv
                · have := e3 i _ 0 (.int .u8 n) v hx rfl (by simpa using hv)
                  cases this
                  exact ⟨n, rfl, rfl⟩
                · simp at hv)]
              simp only [Result.andThen_ok, Sem.run_pure]
              congr 3
              simp
  · simp at hx

theorem wrap_small {n : Int} (h0 : 0 ≤ n) (h : n ≤ 2 ^ 62) : IntKind.i64.wrap n = n := by
  have : (2 : Int) ^ 62 = 4611686018427387904 := by decide
  exact IntWalk.i64_in _ (by omega)

theorem makeSlice_ok {κ : Kap} {φ : Phi} {w : World} {s : SSt} {a : Act} (F : FRel κ φ w s a) {sl t : Nat} {x y : RV} {v u : Value} {res : Res}
    (hx : exMakeSlice (Env.of P) s.O sl t x y = some res) (hc : ∀ b ∈ res.conds, b = true) (r : RVR κ φ s.O w.heap x v) (r2 : RVR κ φ s.O w.heap y u) :
    Out P κ φ w s a res.val res.upd (Instr.makeSlice t v u) := by
  unfold exMakeSlice at hx
  split at hx
  · rename_i e k n k' m hu
    split at hx
    · rename_i z by_ q hO hz hby hze
      cases hg : (Nat.ble 1 z && Nat.ble 1 by_ && Nat.beq q.cells.length z && allScal q.cells) with
      | false => rw [hg] at hx; simp at hx
      | true =>
        rw [hg] at hx; simp only [cond_true, Option.some.injEq] at hx; subst hx
        simp only [Bool.and_eq_true] at hg
        obtain ⟨⟨⟨g1, g2⟩, g3⟩, g4⟩ := hg
        have g1 := Nat.le_of_ble_eq_true g1
        have g2 := Nat.le_of_ble_eq_true g2
        have g3 := nbE g3
        have g4 := allScal_spec g4
        have c1 : 0 ≤ n ∧ n ≤ m := by simpa using hc (decide (0 ≤ n ∧ n ≤ m)) (by simp)
        have c2 : (by_ : Int) * m ≤ 2 ^ 38 := of_decide_eq_true (hc (decide ((by_ : Int) * m ≤ 2 ^ 38)) (by simp))
        have p38 : (2 : Int) ^ 38 = 274877906944 := by decide
        have p62 : (2 : Int) ^ 62 = 4611686018427387904 := by decide
        have p48 : (2 : Int) ^ 48 = 281474976710656 := by decide
        have hm : m ≤ (by_ : Int) * m := by
          have := Int.mul_le_mul_of_nonneg_right (show (1 : Int) ≤ (by_ : Int) by omega) (show 0 ≤ m by omega)
          simpa using this
        cases r with
        | d hr =>
        cases r2 with
        | d hr2 =>
        cases hr; cases hr2
        obtain ⟨ti, hti, htib⟩ := run_typeInfo_bytes hby w
        obtain ⟨zv, hzv, hzo⟩ := run_zeroValue hze w
        have hzd : DR κ w.heap q zv := ofVal_DR hzo
        obtain ⟨zc1, zc2⟩ := hzd.cells
        have hzs : zv.cells.size = z := by omega
        have hB : ((Array.range (m.toNat * z)).map (zv.cells[· % zv.cells.size]!)).size = m.toNat * z := by simp
        have hrun : ∃ B : Array Value, B.size = m.toNat * z ∧ (∀ k, k < m.toNat * z → B[k]? = zv.cells[k % z]?) ∧ (Instr.makeSlice t (.int k n) (.int k' m)).run P w = .ok (.slice (some ⟨w.heap.size, 0, none⟩) n.toNat m.toNat) { w with heap := w.heap.push (.cells B e (0, 0)) } := by
          have w1 : IntKind.i64.wrap n = n := wrap_small (by omega) (by omega)
          have w2 : IntKind.i64.wrap m = m := wrap_small (by omega) (by omega)
          have hlt : ¬ ((by_ : Int) * m > 2 ^ 48) := by omega
          have hcond : ((decide (m < 0) || decide ((by_ : Int) * m > 2 ^ 48)) || decide (n < 0) || decide (n > m)) = false := by simp; omega
          by_cases h0 : m.toNat * z = 0
          · refine ⟨(Array.range (m.toNat * z)).map ((#[] : Array Value)[· % (#[] : Array Value).size]!), by simp, fun k hk => by omega, ?_⟩
            simp only [Instr.makeSlice, Sem.run_bind, run_und hu, Result.andThen_ok, asInt, asIntOf, Sem.run_pure, hti, htib, w1, w2]
            rw [if_neg (by simpa using hcond)]
            simp only [Sem.run_bind, Result.andThen_ok, run_askRoom, run_sizeOf' hz]
            rw [if_pos h0]
            simp [newRow]
          · refine ⟨(Array.range (m.toNat * z)).map (zv.cells[· % zv.cells.size]!), hB, fun k hk => ?_, ?_⟩
            · have hlt : k % z < zv.cells.size := by rw [hzs]; exact Nat.mod_lt _ (by omega)
              have e1 : ((Array.range (m.toNat * z)).map (zv.cells[· % zv.cells.size]!))[k]? = some (zv.cells[k % z]!) := by simp [hk, hzs]
              rw [e1, getElem!_pos zv.cells (k % z) hlt, getElem?_pos zv.cells (k % z) hlt]
            · simp only [Instr.makeSlice, Sem.run_bind, run_und hu, Result.andThen_ok, asInt, asIntOf, Sem.run_pure, hti, htib, w1, w2]
              rw [if_neg (by simpa using hcond)]
              simp only [Sem.run_bind, Result.andThen_ok, run_askRoom, run_sizeOf' hz]
              rw [if_neg h0]
              simp [newRow, hzv]
        obtain ⟨B, hB1, hB2, hrun⟩ := hrun
        have hnm : n.toNat ≤ m.toNat := by omega
        have hle := Nat.mul_le_mul_right z hnm
        obtain ⟨q1, q2, q3⟩ := F.alloc (i := sl) (p := .arr e z (List.replicate n.toNat q)) (o := .cells B e (0, 0)) (w' := { w with heap := w.heap.push (.cells B e (0, 0)) }) rfl hO
          (fun M => .inr ⟨_, _, _, setP_same _ _ _, setK_same _ _ _, heap_push_eq _ _, fzOk00 _, fun x hx => by
              have := List.eq_of_mem_replicate hx; subst this; exact ⟨g3, g4⟩, by rw [hB1]; simpa using hle, fun i x j y v hx hy hv => by
            have hi := (List.getElem?_eq_some_iff.1 hx).1
            have := List.eq_of_mem_replicate (List.mem_iff_getElem?.2 ⟨i, hx⟩); subst this
            have hj := (List.getElem?_eq_some_iff.1 hy).1
            simp only [List.length_replicate] at hi
            have h3 := Nat.mul_le_mul_right z (show i + 1 ≤ m.toNat by omega)
            rw [Nat.add_mul] at h3
            simp only [Nat.zero_add] at hv
            rw [hB2 _ (by omega)] at hv
            have : (i * z + j) % z = j := by rw [Nat.mul_comm, Nat.mul_add_mod]; exact Nat.mod_eq_of_lt (by omega)
            rw [this] at hv
            exact (zc2 j y v hy hv).mono M.imm⟩)
        refine ⟨_, _, _, setP φ sl (.at w.heap.size), hrun, q1, ?_, q3, q2.kp⟩
        exact .own (setP_same _ _ _) (heap_push_eq _ _) (by rw [hB1]; exact Nat.le_refl _) hnm (fun l hl => by
          have : PObj.len? (setT s.O sl (some (.arr e z (List.replicate n.toNat q))) sl) = some l := hl
          rw [setT_same] at this; simp [PObj.len?] at this; omega)
    · simp at hx
  · simp at hx

end Go.Am

/-
  The abstract machine: contracts of functions, and calls by them.
-/
namespace Go.Am
variable {P : Program}

def mapO {α β : Type} (f : α → Option β) : List α → Option (List β)
  | [] => some []
  | x :: r => match f x, mapO f r with
    | some y, some l => some (y :: l)
    | _, _ => none

theorem mapO_spec {α β : Type} (f : α → Option β) : ∀ (l : List α) (r : List β), mapO f l = some r → r.length = l.length ∧ ∀ (i : Nat) (x : α) (y : β), l[i]? = some x → r[i]? = some y → f x = some y
  | [], r, h => by simp [mapO] at h; subst h; simp
  | x :: l, r, h => by
    simp only [mapO] at h
    cases h1 : f x with
    | none => rw [h1] at h; simp at h
    | some y =>
      cases h2 : mapO f l with
      | none => rw [h1, h2] at h; simp at h
      | some q =>
        rw [h1, h2] at h; simp at h; subst h
        obtain ⟨g1, g2⟩ := mapO_spec f l q h2
        refine ⟨by simp [g1], fun i x' y' hx hy => ?_⟩
        cases i with
        | zero => simp at hx hy; subst hx; subst hy; exact h1
        | succ i => exact g2 i x' y' (by simpa using hx) (by simpa using hy)

/-- The objects of a value, numbered otherwise. -/
def RV.ren (ρ : Nat → Option Nat) : Nat → RV → Option RV
  | 0, _ => none
  | n + 1, x =>
    match x with
    | .bot => some .bot
    | .und => some .und
    | .d x => some (.d x)
    | .ptr i off => match ρ i with | some j => some (.ptr j off) | none => none
    | .eptr i sz idx off => match ρ i with | some j => some (.eptr j sz idx off) | none => none
    | .iptr x off => some (.iptr x off)
    | .own i sz => match ρ i with | some j => some (.own j sz) | none => none
    | .sub i sz off len => match ρ i with | some j => some (.sub j sz off len) | none => none
    | .map i => match ρ i with | some j => some (.map j) | none => none
    | .clo fn fs cs => match mapO (RV.ren ρ n) fs, mapO (RV.ren ρ n) cs with
      | some fs', some cs' => some (.clo fn fs' cs')
      | _, _ => none
    | .agg cs => match mapO (RV.ren ρ n) cs with | some l => some (.agg l) | none => none
    | .tup cs => match mapO (RV.ren ρ n) cs with | some l => some (.tup l) | none => none

def PObj.ren (ρ : Nat → Option Nat) : PObj → Option PObj
  | .box ty cs => match mapO (RV.ren ρ 6) cs with | some l => some (.box ty l) | none => none
  | p => some p

theorem RVR.ren {κ κ' : Kap} {φ φ' : Phi} {O O' : Tab} {h : Heap} {ρ : Nat → Option Nat} (himm : ∀ b, κ b = .imm → κ' b = .imm)
    (hφ : ∀ i j, ρ i = some j → φ i ≠ .un → φ' j = φ i) (hlen : ∀ i j n, ρ i = some j → φ i ≠ .un → PObj.len? (O' j) = some n → PObj.len? (O i) = some n) :
    ∀ (n : Nat) (x y : RV) (v : Value), RV.ren ρ n x = some y → RVR κ φ O h x v → RVR κ' φ' O' h y v := by
  intro n
  induction n with
  | zero => intro x y v e; simp [RV.ren] at e
  | succ n ih =>
    intro x y v e r
    have lst : ∀ (cs l : List RV) (vs : Array Value), mapO (RV.ren ρ n) cs = some l → vs.size = cs.length → (∀ (i : Nat) (x : RV) (v : Value), cs[i]? = some x → vs[i]? = some v → RVR κ φ O h x v) →
        vs.size = l.length ∧ ∀ (i : Nat) (x : RV) (v : Value), l[i]? = some x → vs[i]? = some v → RVR κ' φ' O' h x v := by
      intro cs l vs hm hs hr
      obtain ⟨m1, m2⟩ := mapO_spec _ cs l hm
      refine ⟨by omega, fun i x v hx hv => ?_⟩
      have hlt := (List.getElem?_eq_some_iff.1 hx).1
      have hlt2 : i < cs.length := by omega
      have hc : cs[i]? = some cs[i] := by simp [hlt2]
      exact ih _ x v (m2 i _ x hc hx) (hr i _ v hc hv)
    cases r with
    | bot v => simp [RV.ren] at e; subst e; exact .bot v
    | und => simp [RV.ren] at e; subst e; exact .und
    | d hr => simp [RV.ren] at e; subst e; exact .d (hr.mono (fun b hb => ⟨himm b hb, rfl⟩))
    | ptr h1 =>
      rename_i i off b
      simp only [RV.ren] at e
      cases hq : ρ i with
      | none => rw [hq] at e; simp at e
      | some j => rw [hq] at e; simp at e; subst e; exact .ptr (by rw [hφ i j hq (by rw [h1]; simp)]; exact h1)
    | eptr h1 =>
      rename_i i sz idx off b
      simp only [RV.ren] at e
      cases hq : ρ i with
      | none => rw [hq] at e; simp at e
      | some j => rw [hq] at e; simp at e; subst e; exact .eptr (by rw [hφ i j hq (by rw [h1]; simp)]; exact h1)
    | iptr h1 h2 h3 h4 h5 => simp [RV.ren] at e; subst e; exact .iptr (himm _ h1) h2 h3 h4 (fun j y v hy hv => (h5 j y v hy hv).mono (fun b hb => ⟨himm b hb, rfl⟩))
    | own h1 h2 h3 h4 h5 =>
      rename_i i sz b len cap c ty fz
      simp only [RV.ren] at e
      cases hq : ρ i with
      | none => rw [hq] at e; simp at e
      | some j => rw [hq] at e; simp at e; subst e; exact .own (by rw [hφ i j hq (by rw [h1]; simp)]; exact h1) h2 h3 h4 (fun n hn => h5 n (hlen i j n hq (by rw [h1]; simp) hn))
    | ownNil h1 =>
      rename_i i sz base
      simp only [RV.ren] at e
      cases hq : ρ i with
      | none => rw [hq] at e; simp at e
      | some j => rw [hq] at e; simp at e; subst e; exact .ownNil (by rw [hφ i j hq (by rw [h1]; simp)]; exact h1)
    | sub h1 h2 h3 h4 =>
      rename_i i sz off len cap b c ty fz
      simp only [RV.ren] at e
      cases hq : ρ i with
      | none => rw [hq] at e; simp at e
      | some j => rw [hq] at e; simp at e; subst e; exact .sub (by rw [hφ i j hq (by rw [h1]; simp)]; exact h1) h2 h3 h4
    | sub0 h1 =>
      rename_i i sz off base
      simp only [RV.ren] at e
      cases hq : ρ i with
      | none => rw [hq] at e; simp at e
      | some j => rw [hq] at e; simp at e; subst e; exact .sub0 (by rw [hφ i j hq h1]; exact h1)
    | map h1 =>
      rename_i i b
      simp only [RV.ren] at e
      cases hq : ρ i with
      | none => rw [hq] at e; simp at e
      | some j => rw [hq] at e; simp at e; subst e; exact .map (by rw [hφ i j hq (by rw [h1]; simp)]; exact h1)
    | clo h1 h2 h3 h4 =>
      rename_i fn fs cs f c
      simp only [RV.ren] at e
      cases m1 : mapO (RV.ren ρ n) fs with
      | none => rw [m1] at e; simp at e
      | some fs' =>
        cases m2 : mapO (RV.ren ρ n) cs with
        | none => rw [m1, m2] at e; simp at e
        | some cs' =>
          rw [m1, m2] at e; simp at e; subst e
          obtain ⟨q1, q2⟩ := lst fs fs' f m1 h1 h3
          obtain ⟨q3, q4⟩ := lst cs cs' c m2 h2 h4
          exact .clo q1 q3 q2 q4
    | agg h1 h2 h3 =>
      rename_i cs vs
      simp only [RV.ren] at e
      cases m1 : mapO (RV.ren ρ n) cs with
      | none => rw [m1] at e; simp at e
      | some l =>
        rw [m1] at e; simp at e; subst e
        obtain ⟨q1, q2⟩ := lst cs l vs m1 h1 h3
        exact .agg q1 h2 q2
    | tup h1 h3 =>
      rename_i cs vs
      simp only [RV.ren] at e
      cases m1 : mapO (RV.ren ρ n) cs with
      | none => rw [m1] at e; simp at e
      | some l =>
        rw [m1] at e; simp at e; subst e
        obtain ⟨q1, q2⟩ := lst cs l vs m1 h1 h3
        exact .tup q1 q2

theorem OR.ren {κ κ' : Kap} {φ φ' : Phi} {O O' : Tab} {h : Heap} {ρ : Nat → Option Nat} (himm : ∀ b, κ b = .imm → κ' b = .imm)
    (hφ : ∀ i j, ρ i = some j → φ i ≠ .un → φ' j = φ i) (hlen : ∀ i j n, ρ i = some j → φ i ≠ .un → PObj.len? (O' j) = some n → PObj.len? (O i) = some n)
    {i j : Nat} (hij : ρ i = some j) (hown : ∀ b, κ b = .own i → κ' b = .own j) {p q : PObj} (e : p.ren ρ = some q) (r : OR κ φ O h i (some p)) : OR κ' φ' O' h j (some q) := by
  cases p with
  | box ty cs =>
    obtain ⟨b, c, h1, h2, h3, h4, h5, h6⟩ := r
    simp only [PObj.ren] at e
    cases m1 : mapO (RV.ren ρ 6) cs with
    | none => rw [m1] at e; simp at e
    | some l =>
      rw [m1] at e; simp at e; subst e
      obtain ⟨g1, g2⟩ := mapO_spec _ cs l m1
      refine ⟨b, c, by rw [hφ i j hij (by rw [h1]; simp)]; exact h1, hown b h2, h3, by omega, h5, fun k x v hx hv => ?_⟩
      have hlt := (List.getElem?_eq_some_iff.1 hx).1
      have hlt2 : k < cs.length := by omega
      have hc : cs[k]? = some cs[k] := by simp [hlt2]
      exact RVR.ren himm hφ hlen 6 _ x v (g2 k _ x hc hx) (h6 k _ v hc hv)
  | gone => simp [PObj.ren] at e; subst e; exact trivial
  | arr ty sz els =>
    simp [PObj.ren] at e; subst e
    rcases r with ⟨h1, h2⟩ | ⟨b, c, fz, h1, h2, h3, h4, h5⟩
    · exact .inl ⟨by rw [hφ i j hij (by rw [h1]; simp)]; exact h1, h2⟩
    · exact .inr ⟨b, c, fz, by rw [hφ i j hij (by rw [h1]; simp)]; exact h1, hown b h2, h3, h4, h5.mono (fun b hb => ⟨himm b hb, rfl⟩)⟩
  | frz sz els =>
    simp [PObj.ren] at e; subst e
    rcases r with ⟨h1, h2⟩ | ⟨b, c, ty, fz, h1, h2, h3, h5⟩
    · exact .inl ⟨by rw [hφ i j hij (by rw [h1]; simp)]; exact h1, h2⟩
    · exact .inr ⟨b, c, ty, fz, by rw [hφ i j hij (by rw [h1]; simp)]; exact h1, himm b h2, h3, h5.mono (fun b hb => ⟨himm b hb, rfl⟩)⟩
  | bld s =>
    simp [PObj.ren] at e; subst e
    obtain ⟨b, c, ty, h1, h2, h3, h4⟩ := r
    refine ⟨b, c, ty, by rw [hφ i j hij (by rw [h1]; simp)]; exact h1, hown b h2, h3, ?_⟩
    rcases h4 with h4 | ⟨b2, cap, c2, ty2, lo, hi, g1, g2, g3⟩
    · exact .inl h4
    · exact .inr ⟨b2, cap, c2, ty2, lo, hi, g1, hown b2 g2, g3⟩
  | map es =>
    simp [PObj.ren] at e; subst e
    obtain ⟨b, mes, clock, h1, h2, h3, h4, h5⟩ := r
    refine ⟨b, mes, clock, by rw [hφ i j hij (by rw [h1]; simp)]; exact h1, hown b h2, h3, h4, fun k x m hx hm => ?_⟩
    obtain ⟨g1, g2, g3⟩ := h5 k x m hx hm
    exact ⟨g1.mono (fun b hb => ⟨himm b hb, rfl⟩), g2.mono (fun b hb => ⟨himm b hb, rfl⟩), g3⟩

def tabOf (objs : List PObj) : Tab := fun i => objs[i]?

/-- A function's contract: what it makes of its arguments and of the objects that they name. -/
def C (P : Program) (f : FuncId) (args : List RV) (objs : List PObj) (Q : RV → List PObj → Prop) : Prop :=
  ∀ (κ : Kap) (φ : Phi) (w : World) (vs : Array Value), (∀ i, OR κ φ (tabOf objs) w.heap i (tabOf objs i)) → (∀ b, κ b ≠ .oth → b < w.heap.size) → vs.size = args.length →
    (∀ (i : Nat) (x : RV) (v : Value), args[i]? = some x → vs[i]? = some v → RVR κ φ (tabOf objs) w.heap x v) →
    Calls P f vs w fun e w' => ∃ v r objs' κ' φ', e = .returned v ∧ Q r objs' ∧ RVR κ' φ' (tabOf objs') w'.heap r v ∧ (∀ i, OR κ' φ' (tabOf objs') w'.heap i (tabOf objs' i)) ∧
      (∀ b, κ' b ≠ .oth → b < w'.heap.size) ∧ objs.length ≤ objs'.length ∧ Fr κ w κ' w' ∧ Kp φ (tabOf objs) φ' (tabOf objs')

theorem C.mono {f : FuncId} {args : List RV} {objs : List PObj} {Q Q' : RV → List PObj → Prop} (h : C P f args objs Q) (hq : ∀ r o, Q r o → Q' r o) : C P f args objs Q' :=
  fun κ φ w vs h1 h2 h3 h4 => (h κ φ w vs h1 h2 h3 h4).mono fun _ _ ⟨v, r, o, κ', φ', g1, g2, g⟩ => ⟨v, r, o, κ', φ', g1, hq r o g2, g⟩

def idx (i : Nat) : List Nat → Nat → Option Nat
  | [], _ => none
  | x :: r, k => bif Nat.beq x i then some k else idx i r (k + 1)

theorem idx_spec (i : Nat) : ∀ (l : List Nat) (k j : Nat), idx i l k = some j → k ≤ j ∧ l[j - k]? = some i
  | [], k, j, h => by simp [idx] at h
  | x :: r, k, j, h => by
    simp only [idx] at h
    cases hb : Nat.beq x i with
    | true => rw [hb] at h; simp at h; subst h; have := nbE hb; subst this; simp
    | false =>
      rw [hb] at h; simp only [cond_false] at h
      obtain ⟨h1, h2⟩ := idx_spec i r (k + 1) j h
      refine ⟨by omega, ?_⟩
      rw [show j - k = (j - (k + 1)) + 1 by omega]; simpa using h2

theorem idx_mem (i : Nat) : ∀ (l : List Nat) (k : Nat), i ∈ l → ∃ j, idx i l k = some j
  | [], k, h => by simp at h
  | x :: r, k, h => by
    simp only [idx]
    cases hb : Nat.beq x i with
    | true => exact ⟨k, rfl⟩
    | false =>
      rcases List.mem_cons.1 h with rfl | h
      · rw [nbT rfl] at hb; cases hb
      · exact idx_mem i r (k + 1) h

def nodupB : List Nat → Bool
  | [] => true
  | x :: r => !(r.any fun y => Nat.beq y x) && nodupB r

theorem nodupB_spec : ∀ (l : List Nat), nodupB l = true → ∀ (i j x : Nat), l[i]? = some x → l[j]? = some x → i = j
  | [], _, i, j, x, h, _ => by simp at h
  | y :: r, h, i, j, x, hi, hj => by
    simp only [nodupB, Bool.and_eq_true, Bool.not_eq_true'] at h
    have hne : ∀ k, r[k]? ≠ some y := fun k hk => by
      have := List.any_eq_false.1 h.1 y (List.mem_iff_getElem?.2 ⟨k, hk⟩)
      rw [nbT rfl] at this; simp at this
    cases i with
    | zero =>
      simp at hi; subst hi
      cases j with
      | zero => rfl
      | succ j => exact absurd (by simpa using hj) (hne j)
    | succ i =>
      cases j with
      | zero => simp at hj; subst hj; exact absurd (by simpa using hi) (hne i)
      | succ j => have := nodupB_spec r h.2 i j x (by simpa using hi) (by simpa using hj); omega

def zipU : List Nat → List PObj → List (Nat × PObj)
  | i :: r, p :: q => (i, p) :: zipU r q
  | _, _ => []

theorem updO_zip (qs : List Nat) : ∀ (ps : List PObj) (O : Tab), ps.length = qs.length → nodupB qs = true → (∀ (j i : Nat), qs[j]? = some i → updO O (zipU qs ps) i = ps[j]?) ∧ (∀ i, i ∉ qs → updO O (zipU qs ps) i = O i) := by
  induction qs with
  | nil => intro ps O _ _; exact ⟨by simp, fun i _ => by cases ps <;> rfl⟩
  | cons q qs ih =>
    intro ps O hl hn
    cases ps with
    | nil => simp at hl
    | cons p ps =>
      have hn' := hn
      simp only [nodupB, Bool.and_eq_true, Bool.not_eq_true'] at hn'
      obtain ⟨h1, h2⟩ := ih ps (setT O q (some p)) (by simpa using hl) hn'.2
      have hq : q ∉ qs := fun hm => by
        have := List.any_eq_false.1 hn'.1 q hm
        rw [nbT rfl] at this; simp at this
      have hstep : updO O (zipU (q :: qs) (p :: ps)) = updO (setT O q (some p)) (zipU qs ps) := rfl
      rw [hstep]
      refine ⟨fun j i hj => ?_, fun i hi => ?_⟩
      · cases j with
        | zero => simp at hj; subst hj; rw [h2 q hq, setT_same]; rfl
        | succ j => exact h1 j i (by simpa using hj)
      · simp only [List.mem_cons, not_or] at hi
        rw [h2 i hi.2, setT_ne _ _ hi.1]

/-- A state whose objects are handed to a function, and come back. -/
theorem call_core {κ : Kap} {φ : Phi} {w : World} {s : SSt} {a : Act} (F : FRel κ φ w s a) {f : FuncId} {ps : List Nat} {args args' : List RV} {objs : List PObj} {vs : Array Value} {Q : RV → List PObj → Prop}
    (hnd : nodupB ps = true) (hargs : mapO (RV.ren (fun i => idx i ps 0) 6) args = some args')
    (hobjs : mapO (fun i => match s.O i with | some p => p.ren (fun i => idx i ps 0) | none => none) ps = some objs)
    (hC : C P f args' objs Q) (hvs : vs.size = args.length) (hr : ∀ (i : Nat) (x : RV) (v : Value), args[i]? = some x → vs[i]? = some v → RVR κ φ s.O w.heap x v) :
    Calls P f vs w fun e w' => ∃ v r objs', e = .returned v ∧ Q r objs' ∧ ps.length ≤ objs'.length ∧
      ∀ (qs : List Nat) (r'' : RV) (objs'' : List PObj), qs.length = objs'.length → nodupB qs = true → qs.take ps.length = ps → (∀ i ∈ qs.drop ps.length, s.O i = none) →
        mapO (PObj.ren (fun j => qs[j]?)) objs' = some objs'' → RV.ren (fun j => qs[j]?) 6 r = some r'' →
        ∃ κ' φ', FRel κ' φ' w' { s with O := updO s.O (zipU qs objs'') } a ∧ RVR κ' φ' (updO s.O (zipU qs objs'')) w'.heap r'' v ∧ Fr κ w κ' w' ∧ Kp φ s.O φ' (updO s.O (zipU qs objs'')) := by
  obtain ⟨a1, a2⟩ := mapO_spec _ args args' hargs
  obtain ⟨o1, o2⟩ := mapO_spec _ ps objs hobjs
  -- what the callee sees
  let κc : Kap := fun b => match κ b with
    | .imm => .imm
    | .own i => match idx i ps 0 with | some j => .own j | none => .oth
    | .oth => .oth
  let φc : Phi := fun j => match ps[j]? with | some i => φ i | none => .un
  have idxps : ∀ (i j : Nat), idx i ps 0 = some j → ps[j]? = some i := fun i j h => by have := (idx_spec i ps 0 j h).2; simpa using this
  have psidx : ∀ (i j : Nat), ps[j]? = some i → idx i ps 0 = some j := fun i j h => by
    obtain ⟨k, hk⟩ := idx_mem i ps 0 (List.mem_iff_getElem?.2 ⟨j, h⟩)
    rw [hk, nodupB_spec ps hnd k j i (idxps i k hk) h]
  have himm : ∀ b, κ b = .imm → κc b = .imm := fun b hb => by simp only [κc, hb]
  have hφc : ∀ (i j : Nat), idx i ps 0 = some j → φ i ≠ .un → φc j = φ i := fun i j h _ => by simp only [φc, idxps i j h]
  have objAt : ∀ (j i : Nat), ps[j]? = some i → ∃ p q, s.O i = some p ∧ p.ren (fun i => idx i ps 0) = some q ∧ objs[j]? = some q := by
    intro j i h
    have hlt := (List.getElem?_eq_some_iff.1 h).1
    have hlt2 : j < objs.length := by omega
    have hq : objs[j]? = some objs[j] := by simp [hlt2]
    have := o2 j i _ h hq
    cases e : s.O i with
    | none => simp only [e] at this; cases this
    | some p => simp only [e] at this; exact ⟨p, _, rfl, this, hq⟩
  have lenren : ∀ (ρ : Nat → Option Nat) (p q : PObj), p.ren ρ = some q → PObj.len? (some q) = PObj.len? (some p) := by
    intro ρ p q h
    cases p <;> simp only [PObj.ren] at h <;> try (injection h with h; subst h; rfl)
    split at h
    · injection h with h; subst h; rfl
    · simp at h
  have hlenc : ∀ (i j n : Nat), idx i ps 0 = some j → φ i ≠ .un → PObj.len? (tabOf objs j) = some n → PObj.len? (s.O i) = some n := by
    intro i j n h _ hn
    obtain ⟨p, q, e1, e2, e3⟩ := objAt j i (idxps i j h)
    rw [e1, ← lenren _ p q e2]; simp only [tabOf, e3] at hn; exact hn
  have pre1 : ∀ j, OR κc φc (tabOf objs) w.heap j (tabOf objs j) := by
    intro j
    cases hj : ps[j]? with
    | none =>
      have : objs[j]? = none := by rw [List.getElem?_eq_none_iff] at hj ⊢; omega
      simp only [tabOf, this]
      show φc j = .un
      simp only [φc, hj]
    | some i =>
      obtain ⟨p, q, e1, e2, e3⟩ := objAt j i hj
      simp only [tabOf, e3]
      have ho := F.objs i
      rw [e1] at ho
      exact OR.ren (ρ := fun i => idx i ps 0) himm hφc hlenc (psidx i j hj) (fun b hb => by simp only [κc, hb, psidx i j hj]) e2 ho
  have pre2 : ∀ b, κc b ≠ .oth → b < w.heap.size := fun b hb => F.bnd b (fun e => by simp only [κc, e] at hb; exact hb rfl)
  have pre3 : ∀ (i : Nat) (x : RV) (v : Value), args'[i]? = some x → vs[i]? = some v → RVR κc φc (tabOf objs) w.heap x v := by
    intro i x v hx hv
    have hlt := (List.getElem?_eq_some_iff.1 hx).1
    have hlt2 : i < args.length := by omega
    have hq : args[i]? = some args[i] := by simp [hlt2]
    exact RVR.ren (ρ := fun i => idx i ps 0) himm hφc hlenc 6 _ x v (a2 i _ x hq hx) (hr i _ v hq hv)
  refine (hC κc φc w vs pre1 pre2 (by omega) pre3).mono ?_
  rintro e w' ⟨v, r, objs', κ1, φ1, rfl, hQ, hres, hob, hbd, hle, hfr, hkp⟩
  refine ⟨v, r, objs', rfl, hQ, by omega, ?_⟩
  intro qs r'' objs'' q1 q2 q3 q4 q5 q6
  obtain ⟨b1, b2⟩ := mapO_spec _ objs' objs'' q5
  obtain ⟨z1, z2⟩ := updO_zip qs objs'' s.O (by omega) q2
  have qsps : ∀ (j i : Nat), ps[j]? = some i → qs[j]? = some i := fun j i h => by
    have hlt := (List.getElem?_eq_some_iff.1 h).1
    rw [← q3, List.getElem?_take, if_pos hlt] at h; exact h
  have qsnew : ∀ (j i : Nat), qs[j]? = some i → ps.length ≤ j → s.O i = none := fun j i h hj => q4 i (by
    refine List.mem_iff_getElem?.2 ⟨j - ps.length, ?_⟩
    rw [List.getElem?_drop]; rw [show ps.length + (j - ps.length) = j by omega]; exact h)
  have unNone : ∀ i, s.O i = none → φ i = .un := fun i h => by have := F.objs i; rw [h] at this; exact this
  -- what the caller sees behind the call
  let κ2 : Kap := fun b => if b < w.heap.size ∧ κc b = .oth then κ b else match κ1 b with
    | .imm => .imm
    | .own j => match qs[j]? with | some i => .own i | none => .oth
    | .oth => .oth
  let φ2 : Phi := fun i => match idx i qs 0 with | some j => φ1 j | none => φ i
  have qidx : ∀ (i j : Nat), qs[j]? = some i → idx i qs 0 = some j := fun i j h => by
    obtain ⟨k, hk⟩ := idx_mem i qs 0 (List.mem_iff_getElem?.2 ⟨j, h⟩)
    have := (idx_spec i qs 0 k hk).2
    rw [hk, nodupB_spec qs q2 k j i (by simpa using this) h]
  have idxq : ∀ (i j : Nat), idx i qs 0 = some j → qs[j]? = some i := fun i j h => by have := (idx_spec i qs 0 j h).2; simpa using this
  have k1oth : ∀ b, b < w.heap.size → κc b = .oth → κ1 b = .oth ∧ w'.heap[b]? = w.heap[b]? := fun b hb h => hfr.oth b hb h
  have himm2 : ∀ b, κ1 b = .imm → κ2 b = .imm := fun b hb => by
    simp only [κ2]
    rw [if_neg (fun h => by have := (k1oth b h.1 h.2).1; rw [hb] at this; cases this), hb]
  have hφ2 : ∀ (j i : Nat), qs[j]? = some i → φ1 j ≠ .un → φ2 i = φ1 j := fun j i h _ => by simp only [φ2, qidx i j h]
  have hlen2 : ∀ (j i n : Nat), qs[j]? = some i → φ1 j ≠ .un → PObj.len? (updO s.O (zipU qs objs'') i) = some n → PObj.len? (tabOf objs' j) = some n := by
    intro j i n h _ hn
    have hlt := (List.getElem?_eq_some_iff.1 h).1
    have hlt2 : j < objs'.length := by omega
    have hlt3 : j < objs''.length := by omega
    have g1 : objs'[j]? = some objs'[j] := by simp [hlt2]
    have g2 : objs''[j]? = some objs''[j] := by simp [hlt3]
    rw [z1 j i h, g2, lenren _ _ _ (b2 j _ _ g1 g2)] at hn
    simp only [tabOf, g1]; exact hn
  have phiPs : ∀ i, φ i ≠ .un → φ2 i = φ i := by
    intro i hi
    simp only [φ2]
    cases hx : idx i qs 0 with
    | none => rfl
    | some j =>
      have hj := idxq i j hx
      simp only
      by_cases hlt : j < ps.length
      · have hp : ps[j]? = some i := by
          have : (qs.take ps.length)[j]? = some i := by rw [List.getElem?_take, if_pos hlt]; exact hj
          rw [q3] at this; exact this
        have e1 : φc j = φ i := by simp only [φc, hp]
        rw [hkp.phi j (by rw [e1]; exact hi), e1]
      · exact absurd (unNone i (qsnew j i hj (by omega))) hi
  have M : Mono κ φ s.O w.heap κ2 φ2 (updO s.O (zipU qs objs'')) w'.heap :=
    { imm := fun b hb => by
        have h1 := himm b hb
        have h2 := hfr.imm b h1
        exact ⟨himm2 b h2.1, h2.2⟩
      shp := hfr.shp
      phi := phiPs
      len := fun i n hi hn => by
        by_cases hm : i ∈ qs
        · obtain ⟨j, hj⟩ := List.mem_iff_getElem?.1 hm
          by_cases hlt : j < ps.length
          · have hp : ps[j]? = some i := by
              have : (qs.take ps.length)[j]? = some i := by rw [List.getElem?_take, if_pos hlt]; exact hj
              rw [q3] at this; exact this
            have e1 : φc j = φ i := by simp only [φc, hp]
            have e2 : φ1 j = φ i := by rw [hkp.phi j (by rw [e1]; exact hi), e1]
            have h3 := hlen2 j i n hj (by rw [e2]; exact hi) hn
            have h4 := hkp.len j n (by rw [e1]; exact hi) h3
            exact hlenc i j n (psidx i j hp) hi h4
          · exact absurd (unNone i (qsnew j i hj (by omega))) hi
        · rw [z2 i hm] at hn; exact hn }
  refine ⟨κ2, φ2, ⟨fun t => (F.regs t).mono M, fun i => ?_, fun b hb => ?_, F.n, F.df⟩, ?_, ⟨hfr.size, M.imm, fun b hb ho => ?_, hfr.shp, hfr.os, hfr.out⟩, M.kp⟩
  · by_cases hm : i ∈ qs
    · obtain ⟨j, hj⟩ := List.mem_iff_getElem?.1 hm
      have hlt := (List.getElem?_eq_some_iff.1 hj).1
      have hlt2 : j < objs'.length := by omega
      have hlt3 : j < objs''.length := by omega
      have g1 : objs'[j]? = some objs'[j] := by simp [hlt2]
      have g2 : objs''[j]? = some objs''[j] := by simp [hlt3]
      simp only [z1 j i hj, g2]
      have ho := hob j
      simp only [tabOf, g1] at ho
      exact OR.ren (ρ := fun j => qs[j]?) himm2 (fun j i h h' => hφ2 j i h h') (fun j i n h h' => hlen2 j i n h h') hj (fun b hb => by
        simp only [κ2]
        rw [if_neg (fun h => by have := (k1oth b h.1 h.2).1; rw [hb] at this; cases this), hb]
        simp only [hj]) (b2 j _ _ g1 g2) ho
    · simp only [z2 i hm]
      have hx : idx i qs 0 = none := by
        cases hx : idx i qs 0 with
        | none => rfl
        | some j => exact absurd (List.mem_iff_getElem?.2 ⟨j, idxq i j hx⟩) hm
      have hxp : idx i ps 0 = none := by
        cases hx : idx i ps 0 with
        | none => rfl
        | some j => exact absurd (List.mem_iff_getElem?.2 ⟨j, qsps j i (idxps i j hx)⟩) hm
      refine (F.objs i).mono M (fun b hb => ?_) (by simp only [φ2, hx])
      have hlt := F.bnd b (by rw [hb]; simp)
      have hoc : κc b = .oth := by simp only [κc, hb, hxp]
      refine ⟨?_, (k1oth b hlt hoc).2⟩
      simp only [κ2]; rw [if_pos ⟨hlt, hoc⟩]; exact hb
  · simp only [κ2] at hb
    split at hb
    · rename_i h; exact Nat.lt_of_lt_of_le h.1 hfr.size
    · refine hbd b (fun e => ?_)
      rw [e] at hb; exact hb rfl
  · exact RVR.ren (ρ := fun j => qs[j]?) himm2 (fun j i h h' => hφ2 j i h h') (fun j i n h h' => hlen2 j i n h h') 6 r r'' v q6 hres
  · have hoc : κc b = .oth := by simp only [κc, ho]
    refine ⟨?_, (k1oth b hb hoc).2⟩
    simp only [κ2]; rw [if_pos ⟨hb, hoc⟩]; exact ho

end Go.Am

/-
  The abstract machine: maps whose keys are numbers, strings, bools.
-/
namespace Go.Am
open Go.MapKept
variable {P : Program}

def keq : DV → DV → Bool
  | .int _ a, .int _ b => a == b
  | .str a, .str b => a == b
  | .bool a, .bool b => a == b
  | _, _ => false

/-- A key of a type. -/
def keyOk : Option TypeDesc → DV → Bool
  | some (.int k), .int k' _ => kindEq k k'
  | some .string, .str _ => true
  | some .bool, .bool _ => true
  | _, _ => false

def mhas (k : DV) (es : List (DV × DV)) : Bool := es.any fun p => keq k p.1
def mget (k z : DV) : List (DV × DV) → DV
  | [] => z
  | p :: r => bif keq k p.1 then p.2 else mget k z r
def mput (k v : DV) : List (DV × DV) → List (DV × DV)
  | [] => [(k, v)]
  | p :: r => bif keq k p.1 then (k, v) :: r else p :: mput k v r
def mdel (k : DV) : List (DV × DV) → List (DV × DV)
  | [] => []
  | p :: r => bif keq k p.1 then r else p :: mdel k r

def keysOk (d : Option TypeDesc) (es : List (DV × DV)) : Bool := es.all fun p => keyOk d p.1

theorem kindEq_eq {a b : IntKind} (h : kindEq a b = true) : a = b := by cases a <;> cases b <;> first | rfl | (simp [kindEq] at h)

theorem key_val {κ : Kap} {h : Heap} {d : TypeDesc} {k : DV} {v : Value} (hk : keyOk (some d) k = true) (r : DR κ h k v) : IsKey d v := by
  cases r <;> cases d <;> simp_all [keyOk, IsKey]
  exact (kindEq_eq hk).symm

theorem keq_iff {κ : Kap} {h : Heap} {d : TypeDesc} {k x : DV} {v u : Value} (hk : keyOk (some d) k = true) (hx : keyOk (some d) x = true) (r : DR κ h k v) (q : DR κ h x u) : keq k x = true ↔ v = u := by
  cases d <;> cases k <;> (try (simp [keyOk] at hk; done)) <;> cases x <;> (try (simp [keyOk] at hx; done)) <;> cases r <;> cases q <;> simp_all [keq, keyOk]
  have h1 := kindEq_eq hk
  have h2 := kindEq_eq hx
  rw [← h1, ← h2]; simp

/-- What is found, and what the list's own functions say of it. -/
theorem find_spec {κ : Kap} {h : Heap} {d : TypeDesc} {k : DV} {kv : Value} (hk : keyOk (some d) k = true) (rk : DR κ h k kv) :
    ∀ (es : List (DV × DV)) (ml : List MapEntry) (n : Nat), ml.length = es.length → keysOk (some d) es = true →
      (∀ (j : Nat) (x : DV × DV) (e : MapEntry), es[j]? = some x → ml[j]? = some e → DR κ h x.1 e.key ∧ DR κ h x.2 e.val) →
      (Instr.findNow d kv ml n = some none ∧ mhas k es = false ∧ (∀ z, mget k z es = z) ∧ (∀ v, mput k v es = es ++ [(k, v)]) ∧ mdel k es = es) ∨
      ∃ j x e, Instr.findNow d kv ml n = some (some (n + j, e.val)) ∧ es[j]? = some x ∧ ml[j]? = some e ∧ e.key = kv ∧ mhas k es = true ∧ (∀ z, mget k z es = x.2) ∧ (∀ v, mput k v es = es.set j (k, v)) ∧ mdel k es = es.eraseIdx j
  | [], [], n, _, _, _ => .inl ⟨rfl, rfl, fun _ => rfl, fun _ => rfl, rfl⟩
  | [], _ :: _, _, hl, _, _ => by simp at hl
  | _ :: _, [], _, hl, _, _ => by simp at hl
  | x :: es, e :: ml, n, hl, hks, hr => by
    simp only [keysOk, List.all_cons, Bool.and_eq_true] at hks
    obtain ⟨r1, r2⟩ := hr 0 x e rfl rfl
    obtain ⟨r, hs, hiff⟩ := sameNow_of_keys (key_val hk rk) (key_val hks.1 r1)
    have hq := keq_iff hk hks.1 rk r1
    cases r with
    | true =>
      have e1 : kv = e.key := hiff.1 rfl
      have e2 : keq k x.1 = true := hq.2 e1
      exact .inr ⟨0, x, e, by simp [Instr.findNow, hs], rfl, rfl, e1.symm, by simp [mhas, e2], fun z => by simp [mget, e2], fun v => by simp [mput, e2], by simp [mdel, e2]⟩
    | false =>
      have e2 : keq k x.1 = false := by
        cases hh : keq k x.1 with
        | false => rfl
        | true => exact absurd (hiff.2 (hq.1 hh)) (by simp)
      rcases find_spec hk rk es ml (n + 1) (by simpa using hl) hks.2 (fun j y f hy hf => hr (j + 1) y f (by simpa using hy) (by simpa using hf)) with ⟨h1, h2, h3, h4, h5⟩ | ⟨j, y, f, h1, h2, h3, h4, h5, h6, h7, h8⟩
      · exact .inl ⟨by simp [Instr.findNow, hs, h1], by simpa [mhas, e2] using h2, fun z => by simp [mget, e2, h3], fun v => by simp [mput, e2, h4], by simp [mdel, e2, h5]⟩
      · exact .inr ⟨j + 1, y, f, by simp [Instr.findNow, hs, h1]; omega, by simpa using h2, by simpa using h3, h4, by simp [mhas, e2]; simpa [mhas] using h5, fun z => by simp [mget, e2, h6], fun v => by simp [mput, e2, h7], by simp [mdel, e2, h8]⟩

def exMakeMap (O : Tab) (sl : Nat) (hint : Option RV) : Option Res :=
  match O sl, hint with
  | none, none => some { val := .map sl, upd := [(sl, .map [])] }
  | _, _ => none

/-- A map's rows, wherever it lies. -/
def rowsOf (O : Tab) : RV → Option (List (DV × DV))
  | .d .nilm => some []
  | .map i => match O i with
    | some (.map es) => some es
    | _ => none
  | _ => none

def exLookup (E : Env) (O : Tab) (t : Nat) (x k : RV) (ok : Bool) : Option Res :=
  match E.und t, rowsOf O x, k with
  | some (.map kt et), some es, .d k => match E.zero et with
    | some z => bif keyOk (E.und kt) k then
        some { val := bif ok then .d (.tup [mget k z es, .bool (mhas k es)]) else .d (mget k z es), conds := [keysOk (E.und kt) es] }
      else none
    | none => none
  | _, _, _ => none

def exMapUpdate (E : Env) (O : Tab) (t : Nat) (m k v : RV) : Option Res :=
  match E.und t, m, k with
  | some (.map kt _), .map i, .d k => match tkDV O v, O i with
    | some (y, u, c), some (.map es) => bif keyOk (E.und kt) k && (u.all fun p => !(Nat.beq p.1 i)) then
        some { val := .bot, upd := u ++ [(i, .map (mput k y es))], conds := keysOk (E.und kt) es :: c }
      else none
    | _, _ => none
  | _, _, _ => none

def exDelete (E : Env) (O : Tab) (t : Nat) (m k : RV) : Option Res :=
  match E.und t, m, k with
  | some (.map kt _), .map i, .d k => match O i with
    | some (.map es) => bif keyOk (E.und kt) k then
        some { val := .d (.tup []), upd := [(i, .map (mdel k es))], conds := [keysOk (E.und kt) es] }
      else none
    | _ => none
  | _, _, _ => none

theorem run_makeMap' (t : Nat) (w : World) : (Instr.makeMap t none).run P w = .ok (.map (some w.heap.size)) { w with heap := w.heap.push (.map #[] 0) } := rfl

theorem makeMap_ok {κ : Kap} {φ : Phi} {w : World} {s : SSt} {a : Act} (F : FRel κ φ w s a) {sl t : Nat} {res : Res} (hx : exMakeMap s.O sl none = some res) : Out P κ φ w s a res.val res.upd (Instr.makeMap t none) := by
  unfold exMakeMap at hx
  split at hx
  · rename_i hO _
    injection hx with hx; subst hx
    obtain ⟨q1, q2, q3⟩ := F.alloc (i := sl) (p := .map []) (o := .map #[] 0) (w' := { w with heap := w.heap.push (.map #[] 0) }) rfl hO
      (fun _ => ⟨w.heap.size, #[], 0, setP_same _ _ _, setK_same _ _ _, heap_push_eq _ _, ⟨rfl, by simp⟩, fun j x e hx => by simp at hx⟩)
    exact ⟨_, _, _, _, run_makeMap' t w, q1, .map (setP_same _ _ _), q3, q2.kp⟩
  · cases hx

theorem lookup_ok {κ : Kap} {φ : Phi} {w : World} {s : SSt} {a : Act} (F : FRel κ φ w s a) {t : Nat} {x k : RV} {ok : Bool} {v u : Value} {res : Res}
    (hx : exLookup (Env.of P) s.O t x k ok = some res) (hc : ∀ b ∈ res.conds, b = true) (r : RVR κ φ s.O w.heap x v) (r2 : RVR κ φ s.O w.heap k u) :
    Out P κ φ w s a res.val res.upd (Instr.lookup t v u ok) := by
  unfold exLookup at hx
  split at hx
  · rename_i kt et es kd hu hrows
    cases hz : (Env.of P).zero et with
    | none => rw [hz] at hx; simp at hx
    | some z =>
      rw [hz] at hx; simp only at hx
      cases hk : keyOk ((Env.of P).und kt) kd with
      | false => rw [hk] at hx; simp at hx
      | true =>
        rw [hk] at hx; simp only [cond_true, Option.some.injEq] at hx; subst hx
        cases hd : (Env.of P).und kt with
        | none => rw [hd] at hk; simp [keyOk] at hk
        | some d =>
          rw [hd] at hk
          have hks : keysOk (some d) es = true := by have := hc (keysOk ((Env.of P).und kt) es) (by simp); rw [hd] at this; exact this
          cases r2 with
          | d rk =>
          have hu' : P.underlying t = some (.map kt et) := hu
          have hd' : P.underlying kt = some d := hd
          obtain ⟨zv, hz1, hz2⟩ := run_zeroValue hz w
          have fin : ∀ (ml : List MapEntry), ml.length = es.length → (∀ (j : Nat) (x : DV × DV) (e : MapEntry), es[j]? = some x → ml[j]? = some e → DR κ w.heap x.1 e.key ∧ DR κ w.heap x.2 e.val) →
              (∀ (r : Value), ((do
                Instr.checkKey ml.toArray.isEmpty 10000 kt u
                let (v, ok') ← match ← Instr.findKey kt u ml with
                  | some (_, v) => pure (v, true)
                  | none => pure (← zeroValue et, false)
                pure (if ok then .tuple #[v, .bool ok'] else v) : Sem Value)).run P w = .ok r w → (Instr.lookup t v u ok).run P w = .ok r w) →
              Out P κ φ w s a (bif ok then .d (.tup [mget kd z es, .bool (mhas kd es)]) else .d (mget kd z es)) [] (Instr.lookup t v u ok) := by
            intro ml hl hr hrun
            rcases find_spec hk rk es ml 0 hl hks hr with ⟨h1, h2, h3, _, _⟩ | ⟨j, y, e, h1, h2, h3, h4, h5, h6, _, _⟩
            · have hf : (Instr.findKey kt u ml).run P w = .ok none w := run_findKey hd' h1
              refine Out.pure (v := if ok then .tuple #[zv, .bool false] else zv) F (hrun _ ?_) ?_
              · simp only [Sem.run_bind, run_checkKey hd' (key_val hk rk), hf, hz1, Result.andThen_ok, Sem.run_pure]
              · rw [h2, h3]
                cases ok with
                | true => exact .d (.tup rfl (fun i x v hx hv => by
                    match i, hx, hv with
                    | 0, hx, hv => simp at hx hv; subst hx; subst hv; exact ofVal_DR hz2
                    | 1, hx, hv => simp at hx hv; subst hx; subst hv; exact .bool _
                    | i + 2, hx, hv => simp at hx))
                | false => exact .d (ofVal_DR hz2)
            · have hf : (Instr.findKey kt u ml).run P w = .ok (some (0 + j, e.val)) w := run_findKey hd' h1
              have q := (hr j y e h2 h3).2
              refine Out.pure (v := if ok then .tuple #[e.val, .bool true] else e.val) F (hrun _ ?_) ?_
              · simp only [Sem.run_bind, run_checkKey hd' (key_val hk rk), hf, Result.andThen_ok, Sem.run_pure]
              · rw [h5, h6]
                cases ok with
                | true => exact .d (.tup rfl (fun i x v hx hv => by
                    match i, hx, hv with
                    | 0, hx, hv => simp at hx hv; subst hx; subst hv; exact q
                    | 1, hx, hv => simp at hx hv; subst hx; subst hv; exact .bool _
                    | i + 2, hx, hv => simp at hx))
                | false => exact .d q
          unfold rowsOf at hrows
          split at hrows
          · injection hrows with hrows; subst hrows
            cases r with
            | d hr =>
            cases hr
            refine fin [] rfl (by simp) (fun r hr => ?_)
            rw [← hr]
            simp only [Instr.lookup, Sem.run_bind, run_underlying hu', Result.andThen_ok, Sem.run_pure]
            rfl
          · rename_i i
            have ho := F.objs i
            cases hO : s.O i with
            | none => rw [hO] at hrows; simp at hrows
            | some p =>
              rw [hO] at hrows ho
              cases p <;> simp only at hrows <;> try (simp at hrows; done)
              injection hrows with hrows; subst hrows
              obtain ⟨b, mes, clock, g1, g2, g3, g4, g5⟩ := ho
              cases r with
              | map hφ =>
              rename_i b2
              have : b = b2 := by rw [g1] at hφ; injection hφ
              subst this
              refine fin mes.toList (by simpa using g4.1) (fun j x e hx he => ⟨(g5 j x e hx (by simpa using he)).1, (g5 j x e hx (by simpa using he)).2.1⟩) (fun r hr => ?_)
              rw [← hr]
              simp only [Instr.lookup, Sem.run_bind, run_underlying hu', Result.andThen_ok, Go.MapKept.run_getObj_map g3, Sem.run_pure]
              rfl
          · cases hrows
  · cases hx

theorem updO_add (O : Tab) (u : List (Nat × PObj)) (i : Nat) (p : PObj) : updO O (u ++ [(i, p)]) = setT (updO O u) i (some p) := by simp [updO]

/-- A map's block gets other entries. -/
theorem map_write {κ : Kap} {φ : Phi} {w : World} {s : SSt} {a : Act} (F : FRel κ φ w s a) {i b : Nat} {es' : List (DV × DV)} {mes mes' : Array MapEntry} {clock clock' : Nat}
    (g1 : φ i = .at b) (g2 : κ b = .own i) (g3 : w.heap[b]? = some (.map mes clock)) (hsz : SzOk mes' es'.length)
    (hr : ∀ (j : Nat) (x : DV × DV) (e : MapEntry), es'[j]? = some x → mes'[j]? = some e → DR κ w.heap x.1 e.key ∧ DR κ w.heap x.2 e.val ∧ e.born < clock') :
    FRel κ φ (World.row w b (.map mes' clock')) { s with O := setT s.O i (some (.map es')) } a ∧ Mono κ φ s.O w.heap κ φ (setT s.O i (some (.map es'))) (World.row w b (.map mes' clock')).heap ∧ Fr κ w κ (World.row w b (.map mes' clock')) :=
  F.write g2 g1 (fun c ty fz h => by rw [g3] at h; simp at h) (fun n hn => by simp [PObj.len?] at hn)
    (fun M => ⟨b, mes', clock', g1, g2, row_heap g3, hsz, fun j x e hx he => ⟨(hr j x e hx he).1.mono M.imm, (hr j x e hx he).2.1.mono M.imm, (hr j x e hx he).2.2⟩⟩)

theorem nodup_push {mes : Array MapEntry} {e : MapEntry} (h : (mes.toList.map fun e => e.born).Nodup) (hb : ∀ x ∈ mes.toList, x.born < e.born) : ((mes.push e).toList.map fun e => e.born).Nodup := by
  rw [Array.toList_push, List.map_append]
  refine List.nodup_append.2 ⟨h, by simp, fun a ha b hb' => ?_⟩
  simp only [List.map_cons, List.map_nil, List.mem_singleton] at hb'
  subst hb'
  obtain ⟨x, hx, rfl⟩ := List.mem_map.1 ha
  have := hb x hx
  omega
theorem nodup_modify {mes : Array MapEntry} {i : Nat} {f : MapEntry → MapEntry} (hf : ∀ e, (f e).born = e.born) (h : (mes.toList.map fun e => e.born).Nodup) : ((mes.modify i f).toList.map fun e => e.born).Nodup := by
  have : ((mes.modify i f).toList.map fun e => e.born) = (mes.toList.map fun e => e.born) := by
    apply List.ext_getElem?
    intro j
    rw [List.getElem?_map, List.getElem?_map, Array.getElem?_toList, Array.getElem?_toList, Array.getElem?_modify]
    split
    · cases mes[j]? <;> simp [hf]
    · rfl
  rw [this]; exact h
theorem nodup_erase {mes : Array MapEntry} {i : Nat} (h : (mes.toList.map fun e => e.born).Nodup) : ((mes.eraseIdxIfInBounds i).toList.map fun e => e.born).Nodup := by
  have : (mes.eraseIdxIfInBounds i).toList = mes.toList.eraseIdx i := by simp
  rw [this]
  exact h.sublist ((List.eraseIdx_sublist _ _).map _)

theorem sameBits_key (n : Nat) {d : TypeDesc} {v : Value} (h : IsKey d v) : Instr.sameBits n v v = true := by
  cases v with
  | bool b => simp [Instr.sameBits]
  | int k n => simp [Instr.sameBits]
  | string s => simp [Instr.sameBits, bytes_beq]
  | _ => cases d <;> simp [IsKey] at h

theorem mapUpdate_ok {κ : Kap} {φ : Phi} {w : World} {s : SSt} {a : Act} (F : FRel κ φ w s a) {t : Nat} {m k y : RV} {mv kv yv : Value} {res : Res}
    (hx : exMapUpdate (Env.of P) s.O t m k y = some res) (hc : ∀ b ∈ res.conds, b = true) (r : RVR κ φ s.O w.heap m mv) (r2 : RVR κ φ s.O w.heap k kv) (r3 : RVR κ φ s.O w.heap y yv) :
    OutU P κ φ w s a res.upd (Instr.mapUpdate t mv kv yv) := by
  unfold exMapUpdate at hx
  split at hx
  · rename_i kt et i kd hu
    split at hx
    · rename_i yd u c es htk hO
      cases hg : (keyOk ((Env.of P).und kt) kd && (u.all fun p => !(Nat.beq p.1 i))) with
      | false => rw [hg] at hx; simp at hx
      | true =>
        rw [hg] at hx; simp only [cond_true, Option.some.injEq] at hx; subst hx
        simp only [Bool.and_eq_true] at hg
        obtain ⟨hk, hui⟩ := hg
        cases hd : (Env.of P).und kt with
        | none => rw [hd] at hk; simp [keyOk] at hk
        | some d =>
          rw [hd] at hk
          have hks : keysOk (some d) es = true := by have := hc (keysOk ((Env.of P).und kt) es) (by simp); rw [hd] at this; exact this
          obtain ⟨κ1, F1, M1, R1, _, ry⟩ := tkDV_ok F (Frzd.refl _) htk (fun b hb => hc b (by simp [hb])) r3
          have r2' := r2.mono M1
          have r' := r.mono M1
          cases r2' with
          | d rk =>
          have hu' : P.underlying t = some (.map kt et) := hu
          have hd' : P.underlying kt = some d := hd
          have hO1 : updO s.O u i = some (.map es) := by rw [updO_other _ _ hui]; exact hO
          have ho := F1.objs i
          simp only [hO1] at ho
          obtain ⟨b, mes, clock, g1, g2, g3, ⟨g4, gn⟩, g5⟩ := ho
          cases r' with
          | map hφ =>
          rename_i b2
          have : b = b2 := by rw [g1] at hφ; injection hφ
          subst this
          have hq : ∀ (o : Obj), (setObj b o).run P w = .ok () (World.row w b o) := fun o => Go.MapKept.run_setObj_map o g3
          have fin : ∀ (mes' : Array MapEntry) (clock' : Nat), SzOk mes' (mput kd yd es).length → (∀ (j : Nat) (x : DV × DV) (e : MapEntry), (mput kd yd es)[j]? = some x → mes'[j]? = some e → DR κ1 w.heap x.1 e.key ∧ DR κ1 w.heap x.2 e.val ∧ e.born < clock') →
              (Instr.mapUpdate t (.map (some b)) kv yv).run P w = .ok () (World.row w b (.map mes' clock')) → OutU P κ φ w s a (u ++ [(i, .map (mput kd yd es))]) (Instr.mapUpdate t (.map (some b)) kv yv) := by
            intro mes' clock' h1 h2 h3
            obtain ⟨q1, q2, q3⟩ := map_write F1 (i := i) (es' := mput kd yd es) g1 g2 g3 h1 h2
            refine ⟨_, κ1, φ, h3, ?_, R1.trans q3, ?_⟩
            · rw [updO_add]; exact q1
            · rw [updO_add]; exact M1.kp.trans q2.kp
          have hrun : ∀ (o : Option (Nat × Value)), Instr.findNow d kv mes.toList 0 = some o → (Instr.mapUpdate t (.map (some b)) kv yv).run P w = ((match o with
              | some (i, _) => do
                let key ← Instr.keyThatStays (((mes[i]?).map (·.key)).getD kv) kv
                setObj b (.map (mes.modify i fun e => { e with key, val := yv }) clock)
              | none => setObj b (.map (mes.push { key := kv, val := yv, born := clock }) (clock + 1))) : Sem Unit).run P w := by
            intro o h
            simp only [Instr.mapUpdate, Sem.run_bind, run_underlying hu', Result.andThen_ok, Go.MapKept.run_getObj_map g3, run_checkKey hd' (key_val hk rk), run_findKey hd' h]
            cases o <;> rfl
          rcases find_spec hk rk es mes.toList 0 (by simpa using g4) hks (fun j x e hx he => ⟨(g5 j x e hx (by simpa using he)).1, (g5 j x e hx (by simpa using he)).2.1⟩) with ⟨h1, _, _, h4, _⟩ | ⟨j, x0, e, h1, h2, h3, h4, _, _, h7, _⟩
          · refine fin (mes.push { key := kv, val := yv, born := clock }) (clock + 1) ⟨by rw [h4]; simp [g4], nodup_push gn (fun x hx => by
              obtain ⟨j, hj, he⟩ := List.mem_iff_getElem.1 hx
              simp at hj
              have hj2 : j < es.length := by omega
              exact (g5 j es[j] x (by simp [hj2]) (by rw [← he]; simp [hj])).2.2)⟩ (fun j x e hx he => ?_) (by rw [hrun _ h1]; exact hq _)
            rw [h4] at hx
            by_cases hj : j < es.length
            · rw [List.getElem?_append_left hj] at hx
              rw [Array.getElem?_push_lt (by omega)] at he
              have he' : mes[j]? = some e := by rw [← he]; simp [show j < mes.size by omega]
              obtain ⟨q1, q2, q3⟩ := g5 j x e hx he'
              exact ⟨q1, q2, by omega⟩
            · have hj2 : j = es.length := by
                have := (List.getElem?_eq_some_iff.1 hx).1; simp at this; omega
              subst hj2
              rw [← g4] at he
              simp at hx he
              subst hx; subst he
              exact ⟨rk, ry, by simp⟩
          · have hj : j < mes.size := by have := (List.getElem?_eq_some_iff.1 h3).1; simpa using this
            have hme : mes[j]? = some e := by simpa using h3
            have hkey : (Instr.keyThatStays (((mes[0 + j]?).map (·.key)).getD kv) kv).run P w = .ok kv w := by
              have : ((mes[0 + j]?).map (·.key)).getD kv = kv := by rw [Nat.zero_add, hme]; simp [h4]
              rw [this]
              have hsb : Instr.sameBits 10000 kv kv = true := sameBits_key 10000 (key_val hk rk)
              simp [Instr.keyThatStays, hsb]
            refine fin (mes.modify (0 + j) fun e => { e with key := kv, val := yv }) clock ⟨by rw [h7]; simp [g4], nodup_modify (fun _ => rfl) gn⟩ (fun j' x e' hx he => ?_) (by
              rw [hrun _ h1]; simp only [Sem.run_bind, hkey, Result.andThen_ok]; exact hq _)
            rw [h7, List.getElem?_set] at hx
            rw [Nat.zero_add, Array.getElem?_modify] at he
            by_cases hjj : j = j'
            · subst hjj
              rw [if_pos rfl] at hx he
              rw [hme] at he
              have hx' : x = (kd, yd) := by
                split at hx
                · simpa using hx.symm
                · simp at hx
              simp at he
              subst hx'; subst he
              exact ⟨rk, ry, (g5 j x0 e h2 hme).2.2⟩
            · rw [if_neg hjj] at hx he
              exact g5 j' x e' hx he
    · cases hx
  · cases hx

theorem delete_ok {κ : Kap} {φ : Phi} {w : World} {s : SSt} {a : Act} (F : FRel κ φ w s a) {t t2 ty : Nat} {m k : RV} {mv kv : Value} {res : Res}
    (hx : exDelete (Env.of P) s.O t m k = some res) (hc : ∀ b ∈ res.conds, b = true) (r : RVR κ φ s.O w.heap m mv) (r2 : RVR κ φ s.O w.heap k kv) :
    Out P κ φ w s a res.val res.upd (Builtin.delete_ #[t, t2] ty #[mv, kv]) := by
  unfold exDelete at hx
  split at hx
  · rename_i kt et i kd hu
    split at hx
    · rename_i es hO
      cases hk : keyOk ((Env.of P).und kt) kd with
      | false => rw [hk] at hx; simp at hx
      | true =>
        rw [hk] at hx; simp only [cond_true, Option.some.injEq] at hx; subst hx
        cases hd : (Env.of P).und kt with
        | none => rw [hd] at hk; simp [keyOk] at hk
        | some d =>
          rw [hd] at hk
          have hks : keysOk (some d) es = true := by have := hc (keysOk ((Env.of P).und kt) es) (by simp); rw [hd] at this; exact this
          cases r2 with
          | d rk =>
          have hu' : P.underlying t = some (.map kt et) := hu
          have hd' : P.underlying kt = some d := hd
          have ho := F.objs i
          rw [hO] at ho
          obtain ⟨b, mes, clock, g1, g2, g3, ⟨g4, gn⟩, g5⟩ := ho
          cases r with
          | map hφ =>
          rename_i b2
          have : b = b2 := by rw [g1] at hφ; injection hφ
          subst this
          have hq : ∀ (o : Obj), (setObj b o).run P w = .ok () (World.row w b o) := fun o => Go.MapKept.run_setObj_map o g3
          have fin : ∀ (mes' : Array MapEntry), SzOk mes' (mdel kd es).length → (∀ (j : Nat) (x : DV × DV) (e : MapEntry), (mdel kd es)[j]? = some x → mes'[j]? = some e → DR κ w.heap x.1 e.key ∧ DR κ w.heap x.2 e.val ∧ e.born < clock) →
              (Builtin.delete_ #[t, t2] ty #[.map (some b), kv]).run P w = .ok (.tuple #[]) (World.row w b (.map mes' clock)) → Out P κ φ w s a (.d (.tup [])) [(i, .map (mdel kd es))] (Builtin.delete_ #[t, t2] ty #[.map (some b), kv]) := by
            intro mes' h1 h2 h3
            obtain ⟨q1, q2, q3⟩ := map_write F (i := i) (es' := mdel kd es) g1 g2 g3 h1 h2
            exact ⟨_, _, κ, φ, h3, q1, .d (.tup rfl (by simp)), q3, q2.kp⟩
          have hrun : ∀ (o : Option (Nat × Value)) (ob : Obj), Instr.findNow d kv mes.toList 0 = some o → ob = (match o with
              | some (i, _) => .map (mes.eraseIdxIfInBounds i) clock
              | none => .map mes clock) → (Builtin.delete_ #[t, t2] ty #[.map (some b), kv]).run P w = .ok (.tuple #[]) (World.row w b ob) := by
            intro o ob h hob
            subst hob
            have e0 : (#[t, t2] : Array TypeId)[0]? = some t := rfl
            have e1 : (#[Value.map (some b), kv] : Array Value)[0]? = some (.map (some b)) := rfl
            have e2 : (#[Value.map (some b), kv] : Array Value)[1]? = some kv := rfl
            simp only [Builtin.delete_, e0, e1, e2, Sem.run_bind, run_underlying hu', Result.andThen_ok, Go.MapKept.run_getObj_map g3, run_checkKey hd' (key_val hk rk), run_findKey hd' h]
            cases o with
            | none => simp only [Sem.run_bind, hq, Result.andThen_ok, Sem.run_pure]
            | some p => simp only [Sem.run_bind, hq, Result.andThen_ok, Sem.run_pure]
          rcases find_spec hk rk es mes.toList 0 (by simpa using g4) hks (fun j x e hx he => ⟨(g5 j x e hx (by simpa using he)).1, (g5 j x e hx (by simpa using he)).2.1⟩) with ⟨h1, _, _, _, h5⟩ | ⟨j, x0, e, h1, h2, h3, h4, _, _, _, h8⟩
          · exact fin mes ⟨by rw [h5]; exact g4, gn⟩ (by rw [h5]; exact g5) (hrun none _ h1 rfl)
          · have hj : j < mes.size := by have := (List.getElem?_eq_some_iff.1 h3).1; simpa using this
            refine fin (mes.eraseIdxIfInBounds (0 + j)) ?_ (fun j' x e' hx he => ?_) (hrun _ _ h1 rfl)
            · refine ⟨?_, nodup_erase gn⟩
              rw [h8, Nat.zero_add]; simp [Array.eraseIdxIfInBounds, List.length_eraseIdx, g4, show j < es.length by omega]
            · rw [h8, List.getElem?_eraseIdx] at hx
              have he2 : (mes.toList.eraseIdx j)[j']? = some e' := by
                rw [Nat.zero_add] at he
                rw [← he, ← Array.getElem?_toList]
                simp
              rw [List.getElem?_eraseIdx] at he2
              split at hx <;> rename_i hlt
              · rw [if_pos hlt] at he2
                exact g5 j' x e' hx (by simpa using he2)
              · rw [if_neg hlt] at he2
                exact g5 (j' + 1) x e' hx (by simpa using he2)
    · cases hx
  · cases hx


def clearAt (E : Env) (O : Tab) (e i sz off len : Nat) : Option Res :=
  match O i, E.zero e, E.size e with
  | some (.arr ty sz' els), some z, some zz => bif Nat.beq sz' sz && Nat.beq zz sz && Nat.beq z.cells.length sz && allScal z.cells then
      some { val := .d (.tup []), upd := [(i, .arr ty sz (els.take off ++ List.replicate len z ++ els.drop (off + len)))], conds := [decide (off + len ≤ els.length)] }
    else none
  | _, _, _ => none
def exClear (E : Env) (O : Tab) (t : Nat) (x : RV) : Option Res :=
  match E.und t, x with
  | some (.slice e), .own i sz => match O i with
    | some (.arr _ _ els) => clearAt E O e i sz 0 els.length
    | _ => none
  | some (.slice e), .sub i sz off len => clearAt E O e i sz off len
  | _, _ => none

theorem size_zc (z : Array Value) (n : Nat) : (Builtin.zeroCells z n).size = n * z.size := by simp [Builtin.zeroCells]
theorem zeroCells_get (z : Array Value) (n j : Nat) (hj : j < n * z.size) : (Builtin.zeroCells z n)[j]? = z[j % z.size]? := by
  have hz : 0 < z.size := by
    rcases Nat.eq_zero_or_pos z.size with h | h
    · rw [h] at hj; simp at hj
    · exact h
  have : j % z.size < z.size := Nat.mod_lt _ hz
  simp [Builtin.zeroCells, hj, this]

theorem EL.clear {κ : Kap} {h : Heap} {c : Array Value} {sz off len : Nat} {els : List DV} {z : DV} {zv : Array Value} (e : EL κ h c 0 sz els) (hl : off + len ≤ els.length)
    (hz : z.cells.length = sz ∧ ∀ y ∈ z.cells, y.scal = true) (hzv : zv.size = sz) (hr : ∀ (j : Nat) (y : DV) (v : Value), z.cells[j]? = some y → zv[j]? = some v → DR κ h y v) :
    EL κ h (splA c (off * sz) (Builtin.zeroCells zv len).toList) 0 sz (els.take off ++ List.replicate len z ++ els.drop (off + len)) := by
  obtain ⟨e1, e2, e3⟩ := e
  have hzl : (Builtin.zeroCells zv len).toList.length = len * sz := by simp [size_zc, hzv]
  have hle := Nat.mul_le_mul_right sz hl
  rw [Nat.add_mul] at hle
  have hb : off * sz + (Builtin.zeroCells zv len).toList.length ≤ c.size := by rw [hzl]; omega
  have hlen : (els.take off ++ List.replicate len z ++ els.drop (off + len)).length = els.length := by simp; omega
  have getI : ∀ (i : Nat) (x : DV), (els.take off ++ List.replicate len z ++ els.drop (off + len))[i]? = some x → (off ≤ i ∧ i < off + len ∧ x = z) ∨ ((i < off ∨ off + len ≤ i) ∧ els[i]? = some x) := by
    intro i x hx
    by_cases h1 : i < off
    · rw [List.append_assoc, List.getElem?_append_left (by simp; omega), List.getElem?_take, if_pos h1] at hx
      exact .inr ⟨.inl h1, hx⟩
    · by_cases h2 : i < off + len
      · rw [List.getElem?_append_left (by simp; omega), List.getElem?_append_right (by simp; omega), List.getElem?_replicate] at hx
        split at hx
        · injection hx with hx; exact .inl ⟨by omega, h2, hx.symm⟩
        · cases hx
      · rw [List.getElem?_append_right (by simp; omega), List.getElem?_drop] at hx
        refine .inr ⟨.inr (by omega), ?_⟩
        rw [← hx]; congr 1; simp; omega
  refine ⟨fun x hx => ?_, by rw [splA_size _ _ _ hb, hlen]; simpa using e2, fun i x j y v hx hy hv => ?_⟩
  · obtain ⟨i, hi⟩ := List.mem_iff_getElem?.1 hx
    rcases getI i x hi with ⟨_, _, rfl⟩ | ⟨_, h⟩
    · exact hz
    · exact e1 x (List.mem_iff_getElem?.2 ⟨i, h⟩)
  · rw [splA_get _ _ _ hb, hzl] at hv
    simp only [Nat.zero_add] at hv
    rcases getI i x hx with ⟨h1, h2, rfl⟩ | ⟨h1, h⟩
    · have hj : j < sz := by have := (List.getElem?_eq_some_iff.1 hy).1; omega
      have q1 := Nat.mul_le_mul_right sz h1
      have q2 := Nat.mul_le_mul_right sz (show i + 1 ≤ off + len from h2)
      rw [Nat.add_mul, Nat.add_mul] at q2
      rw [if_neg (by omega), if_pos (by omega)] at hv
      have e0 : i * sz + j - off * sz = (i - off) * sz + j := by rw [Nat.sub_mul]; omega
      have e4 : (i - off) * sz + j < len * zv.size := by rw [hzv]; rw [Nat.sub_mul]; omega
      rw [e0, Array.getElem?_toList, zeroCells_get _ _ _ e4, hzv] at hv
      rw [Nat.add_comm, Nat.add_mul_mod_self_right, Nat.mod_eq_of_lt hj] at hv
      exact hr j y v hy hv
    · have hj : j < sz := by have := (e1 x (List.mem_iff_getElem?.2 ⟨i, h⟩)).1; have := (List.getElem?_eq_some_iff.1 hy).1; omega
      refine e3 i x j y v h hy ?_
      rw [Nat.zero_add]
      rcases h1 with h1 | h1
      · have q := Nat.mul_le_mul_right sz (show i + 1 ≤ off from h1)
        rw [Nat.add_mul] at q
        rw [if_pos (by omega)] at hv; exact hv
      · have q := Nat.mul_le_mul_right sz h1
        rw [Nat.add_mul] at q
        rw [if_neg (by omega), if_neg (by omega)] at hv; exact hv

theorem clearAt_ok {κ : Kap} {φ : Phi} {w : World} {s : SSt} {a : Act} (F : FRel κ φ w s a) {t e i sz off len ty : Nat} {v : Value} {res : Res} (hu : (Env.of P).und t = some (.slice e))
    (hx : clearAt (Env.of P) s.O e i sz off len = some res) (hc : ∀ b ∈ res.conds, b = true)
    (hv : (len = 0 ∧ ∃ base cap, v = .slice base 0 cap) ∨ ∃ b cap, φ i = .at b ∧ v = .slice (some ⟨b, off * sz, none⟩) len cap) :
    Out P κ φ w s a res.val res.upd (Builtin.clear_ #[t] ty #[v]) := by
  have hu' : P.underlying t = some (.slice e) := hu
  unfold clearAt at hx
  split at hx
  · rename_i ety sz' els z zz hO hz hzz
    cases hg : (Nat.beq sz' sz && Nat.beq zz sz && Nat.beq z.cells.length sz && allScal z.cells) with
    | false => rw [hg] at hx; simp at hx
    | true =>
      rw [hg] at hx; simp only [cond_true, Option.some.injEq] at hx; subst hx
      simp only [Bool.and_eq_true] at hg
      obtain ⟨⟨⟨g1, g2⟩, g3⟩, g4⟩ := hg
      have g1 := nbE g1; have g2 := nbE g2; have g3 := nbE g3; have g4 := allScal_spec g4
      subst g1; subst g2
      have hle : off + len ≤ els.length := of_decide_eq_true (hc (decide (off + len ≤ els.length)) (by simp))
      by_cases h0 : len = 0
      · have hrun : (Builtin.clear_ #[t] ty #[v]).run P w = .ok (.tuple #[]) w := by
          have : ∃ base cap, v = .slice base 0 cap := by
            rcases hv with ⟨_, h⟩ | ⟨b, cap, _, h⟩
            · exact h
            · rw [h0] at h; exact ⟨_, _, h⟩
          obtain ⟨base, cap, rfl⟩ := this
          have e0 : (#[t] : Array TypeId)[0]? = some t := rfl
          have e1 : (#[Value.slice base 0 cap] : Array Value)[0]? = some (.slice base 0 cap) := rfl
          simp only [Builtin.clear_, e0, e1, Sem.run_bind, run_underlying hu', Result.andThen_ok]
          cases base <;> rfl
        have hel : els.take off ++ List.replicate len z ++ els.drop (off + len) = els := by subst h0; simp
        have hset : setT s.O i (some (.arr ety zz els)) = s.O := by
          funext j
          by_cases ej : j = i
          · subst ej; rw [setT_same, hO]
          · rw [setT_ne _ _ ej]
        rw [hel]
        refine ⟨_, w, κ, φ, hrun, ?_, ?_, Fr.refl _ _, ?_⟩
        · rw [updO_one, hset]; exact F
        · exact .d (.tup rfl (by simp))
        · rw [updO_one, hset]; exact Kp.refl _ _
      · rcases hv with ⟨h, _⟩ | ⟨b, cap, hφ, rfl⟩
        · exact absurd h h0
        · have ho := F.objs i
          rw [hO] at ho
          rcases ho with ⟨h1, _⟩ | ⟨b', c, fz, h1, h2, h3, h4, h5⟩
          · rw [h1] at hφ; cases hφ
          · have hbb : b' = b := by rw [h1] at hφ; injection hφ
            subst hbb
            obtain ⟨zv, hz1, hz2⟩ := run_zeroValue hz w
            obtain ⟨d1, d2⟩ := (ofVal_DR (κ := κ) (h := w.heap) hz2).cells
            have hzs : zv.cells.size = zz := by rw [d1, g3]
            have hzl : (Builtin.zeroCells zv.cells len).toList.length = len * zz := by simp [size_zc, hzs]
            have hmul := Nat.mul_le_mul_right zz hle
            rw [Nat.add_mul] at hmul
            have h52 := h5.2.1
            have hfit : off * zz + 0 + (Builtin.zeroCells zv.cells len).toList.length ≤ c.size := by rw [hzl]; omega
            have hone : ∀ x ∈ (Builtin.zeroCells zv.cells len).toList, x.oneCell = true := by
              intro x hx
              obtain ⟨j, hj⟩ := List.mem_iff_getElem?.1 hx
              have hjl := (List.getElem?_eq_some_iff.1 hj).1
              rw [Array.getElem?_toList, zeroCells_get _ _ _ (by rw [hzs]; omega)] at hj
              have hjm := (Array.getElem?_eq_some_iff.1 hj).1
              have hy : z.cells[j % zv.cells.size]? = some z.cells[j % zv.cells.size] := by simp [show j % zv.cells.size < z.cells.length by omega]
              exact (d2 _ _ _ hy hj).oneCell (g4 _ (by simp))
            have hst := run_storeCells_any (P := P) b' (off * zz) ety fz (Builtin.zeroCells zv.cells len).toList 0 c w h3 h4 hfit hone
            simp only [Nat.add_zero] at hst
            have hrun : (Builtin.clear_ #[t] ty #[.slice (some ⟨b', off * zz, none⟩) len cap]).run P w = .ok (.tuple #[]) (World.row w b' (.cells (splA c (off * zz) (Builtin.zeroCells zv.cells len).toList) ety fz)) := by
              have e0 : (#[t] : Array TypeId)[0]? = some t := rfl
              have e1 : (#[Value.slice (some ⟨b', off * zz, none⟩) len cap] : Array Value)[0]? = some (.slice (some ⟨b', off * zz, none⟩) len cap) := rfl
              simp only [Builtin.clear_, e0, e1, Sem.run_bind, run_underlying hu', Result.andThen_ok]
              cases len with
              | zero => exact absurd rfl h0
              | succ n => simp only [hz1, Result.andThen_ok, hst, Sem.run_pure]
            have hsz : (splA c (off * zz) (Builtin.zeroCells zv.cells len).toList).size = c.size := splA_size _ _ _ (by rw [hzl]; omega)
            have hel := EL.clear h5 hle ⟨g3, g4⟩ hzs d2
            obtain ⟨q1, q2, q3⟩ := F.write (i := i) (p := .arr ety zz (els.take off ++ List.replicate len z ++ els.drop (off + len))) (o := .cells (splA c (off * zz) (Builtin.zeroCells zv.cells len).toList) ety fz) h2 h1
              (fun c' ty2 fz2 hh => by rw [h3] at hh; injection hh with hh; injection hh with e1 e2 e3; subst e1; subst e2; exact ⟨_, _, rfl, hsz⟩)
              (fun n hn => by rw [hO]; simp [PObj.len?] at hn ⊢; omega)
              (fun M => .inr ⟨b', _, fz, h1, h2, row_heap h3, by rw [hsz]; exact h4, hel.mono M.imm⟩)
            refine ⟨_, _, κ, φ, hrun, q1, .d (.tup rfl (by simp)), q3, q2.kp⟩
  · cases hx

theorem clear_ok {κ : Kap} {φ : Phi} {w : World} {s : SSt} {a : Act} (F : FRel κ φ w s a) {t ty : Nat} {x : RV} {v : Value} {res : Res}
    (hx : exClear (Env.of P) s.O t x = some res) (hc : ∀ b ∈ res.conds, b = true) (r : RVR κ φ s.O w.heap x v) : Out P κ φ w s a res.val res.upd (Builtin.clear_ #[t] ty #[v]) := by
  unfold exClear at hx
  split at hx
  · rename_i e i sz hu
    split at hx
    · rename_i sz' els hO
      refine clearAt_ok F hu hx hc ?_
      cases r with
      | own hφ hb hcap hlc hlen =>
        have := hlen els.length (by rw [hO]; rfl)
        subst this
        exact .inr ⟨_, _, hφ, by rw [Nat.zero_mul]⟩
      | ownNil hφ =>
        have ho := F.objs i
        rw [hO] at ho
        rcases ho with ⟨_, h2⟩ | ⟨b, c, fz, h1, _⟩
        · subst h2; exact .inl ⟨rfl, _, _, rfl⟩
        · rw [h1] at hφ; cases hφ
    · cases hx
  · rename_i e i sz off len hu
    refine clearAt_ok F hu hx hc ?_
    cases r with
    | sub hφ hb hcap hlc => exact .inr ⟨_, _, hφ, rfl⟩
    | sub0 hφ => exact .inl ⟨rfl, _, _, rfl⟩
  · cases hx

end Go.Am

/-
  The abstract machine: one operation, whichever it is.
-/
namespace Go.Am
variable {P : Program}

def isOwn : RV → Bool
  | .own _ _ => true
  | .sub _ _ _ _ => true
  | _ => false

/-- A value on its way into a call: arrays of one's own are frozen. -/
def prepCell (O : Tab) (v : RV) : Option (RV × List (Nat × PObj) × List Bool) :=
  bif isOwn v then match tkCell O v with
    | some (x, u, c) => some (.d x, u, c)
    | none => none
  else some (v, [], [])
def prepCells (O : Tab) : List RV → Option (List RV × List (Nat × PObj) × List Bool)
  | [] => some ([], [], [])
  | v :: r => match prepCell O v, prepCells O r with
    | some (x, u, c), some (l, u', c') => some (x :: l, u ++ u', c ++ c')
    | _, _ => none
def prepRV (O : Tab) : RV → Option (RV × List (Nat × PObj) × List Bool)
  | .agg cs => match prepCells O cs with
    | some (l, u, c) => some (mkAgg l, u, c)
    | none => none
  | v => prepCell O v
def prepAll (O : Tab) : List RV → Option (List RV × List (Nat × PObj) × List Bool)
  | [] => some ([], [], [])
  | v :: r => match prepRV O v, prepAll O r with
    | some (x, u, c), some (l, u', c') => some (x :: l, u ++ u', c ++ c')
    | _, _ => none

theorem prepCell_ok {κ : Kap} {φ : Phi} {w : World} {s : SSt} {a : Act} (F : FRel κ φ w s a) {O0 : Tab} (hf : Frzd O0 s.O) {x y : RV} {v : Value}
    {u : List (Nat × PObj)} {c : List Bool} (hx : prepCell O0 x = some (y, u, c)) (hc : ∀ b ∈ c, b = true) (r : RVR κ φ s.O w.heap x v) :
    ∃ κ', FRel κ' φ w { s with O := updO s.O u } a ∧ Mono κ φ s.O w.heap κ' φ (updO s.O u) w.heap ∧ Fr κ w κ' w ∧ Frzd O0 (updO s.O u) ∧ RVR κ' φ (updO s.O u) w.heap y v := by
  unfold prepCell at hx
  cases ho : isOwn x with
  | false =>
    rw [ho] at hx; simp only [cond_false, Option.some.injEq, Prod.mk.injEq] at hx
    obtain ⟨rfl, rfl, rfl⟩ := hx
    exact ⟨κ, F, Mono.refl _ _ _ _, Fr.refl _ _, hf, r⟩
  | true =>
    rw [ho] at hx; simp only [cond_true] at hx
    cases ht : tkCell O0 x with
    | none => rw [ht] at hx; simp at hx
    | some p =>
      obtain ⟨d, u', c'⟩ := p
      rw [ht] at hx; simp only [Option.some.injEq, Prod.mk.injEq] at hx
      obtain ⟨rfl, rfl, rfl⟩ := hx
      obtain ⟨κ', h1, h2, h3, h4, h5⟩ := tkCell_ok F hf ht hc r
      exact ⟨κ', h1, h2, h3, h4, .d h5⟩

theorem prepCells_ok {O0 : Tab} : ∀ {κ : Kap} {φ : Phi} {w : World} {s : SSt} {a : Act} (_ : FRel κ φ w s a) (_ : Frzd O0 s.O) {xs ys : List RV} {vs : List Value}
    {u : List (Nat × PObj)} {c : List Bool} (_ : prepCells O0 xs = some (ys, u, c)) (_ : ∀ b ∈ c, b = true) (_ : vs.length = xs.length)
    (_ : ∀ (i : Nat) (x : RV) (v : Value), xs[i]? = some x → vs[i]? = some v → RVR κ φ s.O w.heap x v),
    ∃ κ', FRel κ' φ w { s with O := updO s.O u } a ∧ Mono κ φ s.O w.heap κ' φ (updO s.O u) w.heap ∧ Fr κ w κ' w ∧ Frzd O0 (updO s.O u) ∧
      ys.length = xs.length ∧ ∀ (i : Nat) (y : RV) (v : Value), ys[i]? = some y → vs[i]? = some v → RVR κ' φ (updO s.O u) w.heap y v := by
  intro κ φ w s a F hf xs
  induction xs generalizing κ s with
  | nil =>
    intro ys vs u c hx _ _ _
    simp only [prepCells, Option.some.injEq, Prod.mk.injEq] at hx
    obtain ⟨rfl, rfl, rfl⟩ := hx
    exact ⟨κ, F, Mono.refl _ _ _ _, Fr.refl _ _, hf, rfl, by simp⟩
  | cons x xs ih =>
    intro ys vs u c hx hc hl hr
    simp only [prepCells] at hx
    cases h1 : prepCell O0 x with
    | none => rw [h1] at hx; simp at hx
    | some p1 =>
      obtain ⟨y, u1, c1⟩ := p1
      cases h2 : prepCells O0 xs with
      | none => rw [h1, h2] at hx; simp at hx
      | some p2 =>
        obtain ⟨l, u2, c2⟩ := p2
        rw [h1, h2] at hx
        simp only [Option.some.injEq, Prod.mk.injEq] at hx
        obtain ⟨rfl, rfl, rfl⟩ := hx
        cases vs with
        | nil => simp at hl
        | cons v vs =>
          obtain ⟨κ1, F1, M1, R1, f1, d1⟩ := prepCell_ok F hf h1 (fun b hb => hc b (by simp [hb])) (hr 0 x v rfl rfl)
          obtain ⟨κ2, F2, M2, R2, f2, l2, d2⟩ := ih F1 f1 h2 (fun b hb => hc b (by simp [hb])) (vs := vs) (by simpa using hl)
            (fun i x' v' hx' hv' => (hr (i + 1) x' v' (by simpa using hx') (by simpa using hv')).mono M1)
          refine ⟨κ2, ?_, ?_, R1.trans R2, ?_, by simp [l2], ?_⟩
          · rw [updO_append]; exact F2
          · rw [updO_append]; exact M1.trans M2
          · rw [updO_append]; exact f2
          · rw [updO_append]
            intro i y' v' hy' hv'
            cases i with
            | zero => simp at hy' hv'; subst hy'; subst hv'; exact d1.mono M2
            | succ i => exact d2 i y' v' (by simpa using hy') (by simpa using hv')

theorem prepRV_ok {κ : Kap} {φ : Phi} {w : World} {s : SSt} {a : Act} (F : FRel κ φ w s a) {O0 : Tab} (hf : Frzd O0 s.O) {x y : RV} {v : Value}
    {u : List (Nat × PObj)} {c : List Bool} (hx : prepRV O0 x = some (y, u, c)) (hc : ∀ b ∈ c, b = true) (r : RVR κ φ s.O w.heap x v) :
    ∃ κ', FRel κ' φ w { s with O := updO s.O u } a ∧ Mono κ φ s.O w.heap κ' φ (updO s.O u) w.heap ∧ Fr κ w κ' w ∧ Frzd O0 (updO s.O u) ∧ RVR κ' φ (updO s.O u) w.heap y v := by
  by_cases hag : ∃ cs, x = .agg cs
  · obtain ⟨cs, rfl⟩ := hag
    simp only [prepRV] at hx
    cases h1 : prepCells O0 cs with
    | none => rw [h1] at hx; simp at hx
    | some p =>
      obtain ⟨l, u1, c1⟩ := p
      rw [h1] at hx
      simp only [Option.some.injEq, Prod.mk.injEq] at hx
      obtain ⟨rfl, rfl, rfl⟩ := hx
      cases r with
      | agg hl hs hr =>
        rename_i vs
        obtain ⟨κ', h2, h3, h4, h5, h6, h8⟩ := prepCells_ok F hf h1 hc (vs := vs.toList) (by simpa using hl) (fun i x v hx hv => hr i x v hx (by simpa using hv))
        exact ⟨κ', h2, h3, h4, h5, mkAgg_ok (by omega) hs (fun i y v hy hv => h8 i y v hy (by simpa using hv))⟩
  · have : prepRV O0 x = prepCell O0 x := by cases x <;> first | rfl | exact absurd ⟨_, rfl⟩ hag
    rw [this] at hx
    exact prepCell_ok F hf hx hc r

theorem prepAll_ok {O0 : Tab} : ∀ {κ : Kap} {φ : Phi} {w : World} {s : SSt} {a : Act} (_ : FRel κ φ w s a) (_ : Frzd O0 s.O) {xs ys : List RV} {vs : List Value}
    {u : List (Nat × PObj)} {c : List Bool} (_ : prepAll O0 xs = some (ys, u, c)) (_ : ∀ b ∈ c, b = true) (_ : vs.length = xs.length)
    (_ : ∀ (i : Nat) (x : RV) (v : Value), xs[i]? = some x → vs[i]? = some v → RVR κ φ s.O w.heap x v),
    ∃ κ', FRel κ' φ w { s with O := updO s.O u } a ∧ Mono κ φ s.O w.heap κ' φ (updO s.O u) w.heap ∧ Fr κ w κ' w ∧ Frzd O0 (updO s.O u) ∧
      ys.length = xs.length ∧ ∀ (i : Nat) (y : RV) (v : Value), ys[i]? = some y → vs[i]? = some v → RVR κ' φ (updO s.O u) w.heap y v := by
  intro κ φ w s a F hf xs
  induction xs generalizing κ s with
  | nil =>
    intro ys vs u c hx _ _ _
    simp only [prepAll, Option.some.injEq, Prod.mk.injEq] at hx
    obtain ⟨rfl, rfl, rfl⟩ := hx
    exact ⟨κ, F, Mono.refl _ _ _ _, Fr.refl _ _, hf, rfl, by simp⟩
  | cons x xs ih =>
    intro ys vs u c hx hc hl hr
    simp only [prepAll] at hx
    cases h1 : prepRV O0 x with
    | none => rw [h1] at hx; simp at hx
    | some p1 =>
      obtain ⟨y, u1, c1⟩ := p1
      cases h2 : prepAll O0 xs with
      | none => rw [h1, h2] at hx; simp at hx
      | some p2 =>
        obtain ⟨l, u2, c2⟩ := p2
        rw [h1, h2] at hx
        simp only [Option.some.injEq, Prod.mk.injEq] at hx
        obtain ⟨rfl, rfl, rfl⟩ := hx
        cases vs with
        | nil => simp at hl
        | cons v vs =>
          obtain ⟨κ1, F1, M1, R1, f1, d1⟩ := prepRV_ok F hf h1 (fun b hb => hc b (by simp [hb])) (hr 0 x v rfl rfl)
          obtain ⟨κ2, F2, M2, R2, f2, l2, d2⟩ := ih F1 f1 h2 (fun b hb => hc b (by simp [hb])) (vs := vs) (by simpa using hl)
            (fun i x' v' hx' hv' => (hr (i + 1) x' v' (by simpa using hx') (by simpa using hv')).mono M1)
          refine ⟨κ2, ?_, ?_, R1.trans R2, ?_, by simp [l2], ?_⟩
          · rw [updO_append]; exact F2
          · rw [updO_append]; exact M1.trans M2
          · rw [updO_append]; exact f2
          · rw [updO_append]
            intro i y' v' hy' hv'
            cases i with
            | zero => simp at hy' hv'; subst hy'; subst hv'; exact d1.mono M2
            | succ i => exact d2 i y' v' (by simpa using hy') (by simpa using hv')

def RV.refs : Nat → RV → List Nat
  | 0, _ => []
  | n + 1, x =>
    match x with
    | .ptr i _ => [i]
    | .eptr i _ _ _ => [i]
    | .own i _ => [i]
    | .sub i _ _ _ => [i]
    | .map i => [i]
    | .clo _ fs cs => fs.flatMap (RV.refs n) ++ cs.flatMap (RV.refs n)
    | .agg cs => cs.flatMap (RV.refs n)
    | .tup cs => cs.flatMap (RV.refs n)
    | _ => []

def objRefs : Option PObj → List Nat
  | some (.box _ cs) => cs.flatMap (RV.refs 6)
  | _ => []

/-- The objects that can be reached, in the order in which they are met. -/
def reach (O : Tab) : Nat → List Nat → List Nat → List Nat
  | 0, _, done => done
  | _, [], done => done
  | n + 1, i :: todo, done => bif done.any (fun j => Nat.beq j i) then reach O n todo done else reach O n (todo ++ objRefs (O i)) (done ++ [i])

def news (sl n : Nat) : List Nat := (List.range n).map (sl + ·)

abbrev Kon := Nat → List RV → List PObj → Option (RV × List PObj × List Bool)

/-- The contracts that a run leans on. -/
def KSound (P : Program) (K : Kon) : Prop := ∀ f args objs r objs' c, K f args objs = some (r, objs', c) → (∀ b ∈ c, b = true) → C P f args objs (fun r2 o2 => r2 = r ∧ o2 = objs')

def exCallF (K : Kon) (byref : Bool) (O : Tab) (sl f : Nat) (args : List RV) : Option Res :=
  match (bif byref then some (args, [], []) else prepAll O args) with
  | none => none
  | some (args1, u, c) =>
    let ps := reach (updO O u) 64 (args1.flatMap (RV.refs 6)) []
    match mapO (RV.ren (fun i => idx i ps 0) 6) args1, mapO (fun i => match updO O u i with | some p => p.ren (fun i => idx i ps 0) | none => none) ps with
    | some args2, some objs => match K f args2 objs with
      | some (r, objs', c2) =>
        let nw := news sl (objs'.length - ps.length)
        bif nodupB ps && nodupB (ps ++ nw) && Nat.ble ps.length objs'.length && nw.all (fun i => (updO O u i).isNone) then
          match mapO (PObj.ren (fun j => (ps ++ nw)[j]?)) objs', RV.ren (fun j => (ps ++ nw)[j]?) 6 r with
          | some objs'', some r'' => some { val := r'', upd := u ++ zipU (ps ++ nw) objs'', conds := c ++ c2 }
          | _, _ => none
        else none
      | none => none
    | _, _ => none

theorem callF_ok {κ : Kap} {φ : Phi} {w : World} {s : SSt} {a : Act} (F : FRel κ φ w s a) {K : Kon} (hK : KSound P K) {byref : Bool} {sl f : Nat} {args : List RV} {vs : Array Value} {res : Res}
    (hx : exCallF K byref s.O sl f args = some res) (hc : ∀ b ∈ res.conds, b = true) (hl : vs.size = args.length)
    (hr : ∀ (i : Nat) (x : RV) (v : Value), args[i]? = some x → vs[i]? = some v → RVR κ φ s.O w.heap x v) :
    Calls P f vs w fun e w' => ∃ v κ' φ', e = .returned v ∧ FRel κ' φ' w' { s with O := updO s.O res.upd } a ∧ RVR κ' φ' (updO s.O res.upd) w'.heap res.val v ∧ Fr κ w κ' w' ∧ Kp φ s.O φ' (updO s.O res.upd) := by
  unfold exCallF at hx
  cases hp : (bif byref then some (args, [], []) else prepAll s.O args) with
  | none => rw [hp] at hx; simp at hx
  | some p3 =>
    obtain ⟨args1, u, c⟩ := p3
    rw [hp] at hx; simp only at hx
    generalize hps : reach (updO s.O u) 64 (args1.flatMap (RV.refs 6)) [] = ps at hx
    cases h1 : mapO (RV.ren (fun i => idx i ps 0) 6) args1 with
    | none => rw [h1] at hx; simp at hx
    | some args2 =>
      cases h2 : mapO (fun i => match updO s.O u i with | some p => p.ren (fun i => idx i ps 0) | none => none) ps with
      | none => rw [h1, h2] at hx; simp at hx
      | some objs =>
        rw [h1, h2] at hx; simp only at hx
        cases h3 : K f args2 objs with
        | none => rw [h3] at hx; simp at hx
        | some q3 =>
          obtain ⟨r, objs', c2⟩ := q3
          rw [h3] at hx; simp only at hx
          cases hg : (nodupB ps && nodupB (ps ++ news sl (objs'.length - ps.length)) && Nat.ble ps.length objs'.length && (news sl (objs'.length - ps.length)).all (fun i => (updO s.O u i).isNone)) with
          | false => rw [hg] at hx; simp at hx
          | true =>
            rw [hg] at hx; simp only [cond_true] at hx
            simp only [Bool.and_eq_true] at hg
            obtain ⟨⟨⟨g0, g1⟩, g2⟩, g3⟩ := hg
            have g2 := Nat.le_of_ble_eq_true g2
            cases h4 : mapO (PObj.ren (fun j => (ps ++ news sl (objs'.length - ps.length))[j]?)) objs' with
            | none => rw [h4] at hx; simp at hx
            | some objs'' =>
              cases h5 : RV.ren (fun j => (ps ++ news sl (objs'.length - ps.length))[j]?) 6 r with
              | none => rw [h4, h5] at hx; simp at hx
              | some r'' =>
                rw [h4, h5] at hx; simp only [Option.some.injEq] at hx; subst hx
                simp only at hc
                have pre : ∃ κ1, FRel κ1 φ w { s with O := updO s.O u } a ∧ Mono κ φ s.O w.heap κ1 φ (updO s.O u) w.heap ∧ Fr κ w κ1 w ∧ args1.length = args.length ∧
                    ∀ (i : Nat) (x : RV) (v : Value), args1[i]? = some x → vs[i]? = some v → RVR κ1 φ (updO s.O u) w.heap x v := by
                  cases byref with
                  | true =>
                    simp only [cond_true, Option.some.injEq, Prod.mk.injEq] at hp
                    obtain ⟨rfl, rfl, rfl⟩ := hp
                    exact ⟨κ, F, Mono.refl _ _ _ _, Fr.refl _ _, rfl, hr⟩
                  | false =>
                    simp only [cond_false] at hp
                    obtain ⟨κ1, q1, q2, q3, _, q5, q6⟩ := prepAll_ok F (Frzd.refl _) hp (fun b hb => hc b (by simp [hb])) (vs := vs.toList) (by simpa using hl) (fun i x v hx hv => hr i x v hx (by simpa using hv))
                    exact ⟨κ1, q1, q2, q3, q5, fun i x v hx hv => q6 i x v hx (by simpa using hv)⟩
                obtain ⟨κ1, F1, M1, R1, l1, hr1⟩ := pre
                have hC := hK f args2 objs r objs' c2 h3 (fun b hb => hc b (by simp [hb]))
                refine (call_core F1 (ps := ps) g0 h1 h2 hC (by omega) hr1).mono ?_
                rintro e w' ⟨v, r', o', rfl, ⟨rfl, rfl⟩, hle, hfin⟩
                have hnl : (news sl (o'.length - ps.length)).length = o'.length - ps.length := by simp [news]
                obtain ⟨κ', φ', f1, f2, f3, f4⟩ := hfin (ps ++ news sl (o'.length - ps.length)) r'' objs'' (by rw [List.length_append, hnl]; omega) g1 (by simp)
                  (fun i hi => by
                    rw [List.drop_left] at hi
                    have := List.all_eq_true.1 g3 i hi
                    simpa using this) h4 h5
                exact ⟨v, κ', φ', rfl, by rw [updO_append]; exact f1, by rw [updO_append]; exact f2, R1.trans f3, by rw [updO_append]; exact M1.kp.trans f4⟩

def callOk (P : Program) (f : Nat) : Bool :=
  match P.funcs[f]? with
  | some fn => fn.body.isSome && (fn.name != "runtime.NumGoroutine")
  | none => false

theorem run_callFunc {f : Nat} (h : callOk P f = true) (vs : Array Value) (w : World) : (callFunc f vs).run P w = .ok (.enter f vs) w := by
  unfold callOk at h
  cases hf : P.funcs[f]? with
  | none => rw [hf] at h; simp at h
  | some fn =>
    rw [hf] at h
    simp only [Bool.and_eq_true, bne_iff_ne] at h
    simp only [callFunc, Sem.run_bind, run_program, Result.andThen_ok, hf]
    have h1 : (fn.name == "runtime.NumGoroutine") = false := by simpa using h.2
    have h2 : fn.body.isNone = false := by cases e : fn.body <;> simp_all
    simp [h1, h2]


structure Cfg where
  E : Env
  K : Kon
  byref : Nat → Bool
  callOk : Nat → Bool

def exPick (c a b : RV) : Option Res :=
  match c with
  | .d (.bool c) => match a, b with
    | .d (.bool x), .d (.bool y) => some { val := .d (.bool (bif c then x else y)) }
    | x, y => some { val := bif c then x else y }
  | _ => none

def exNil (x : RV) : Option Res :=
  match x with
  | .ptr i o => some { val := .ptr i o }
  | .eptr i sz idx o => some { val := .eptr i sz idx o }
  | .iptr y o => some { val := .iptr y o }
  | .clo (.func f) fs cs => some { val := .clo (.func f) fs cs }
  | _ => none

def exMakeFunc (O : Tab) (fn : Fn) (first caps : List RV) : Option Res :=
  match prepAll O (first ++ caps) with
  | some (l, u, c) => some { val := .clo fn (l.take first.length) (l.drop first.length), upd := u, conds := c }
  | none => none

def notIntB : Option TypeDesc → Bool
  | some (.int _) => false
  | some _ => true
  | none => false

def exBuiltin (cf : Cfg) (O : Tab) (sl : Nat) (b : Builtin) (tys : List Nat) (args : List RV) : Option Res :=
  match b, tys, args with
  | .len, [t], [x] => exLen cf.E O t x
  | .append, [t, t2], [x, y] => bif notIntB (cf.E.und t2) then exAppend cf.E O sl t x y else none
  | .min, _, [x, y] => exMinMax true x y
  | .max, _, [x, y] => exMinMax false x y
  | .delete, [t, _], [x, y] => exDelete cf.E O t x y
  | .clear, [t], [x] => exClear cf.E O t x
  | _, _, _ => none

/-- What an operation makes of a state's registers and objects; 'true': it gives no value. -/
def exOp (cf : Cfg) (R : Nat → RV) (O : Tab) (sl : Nat) (o : Oper) : Option (Res × Bool) :=
  let val (r : Option Res) : Option (Res × Bool) := match r with
    | some r => some (r, false)
    | none => none
  match o.op with
  | .move x => some ({ val := rvOf R x }, false)
  | .assign x => some ({ val := rvOf R x }, false)
  | .pick c a b => val (exPick (rvOf R c) (rvOf R a) (rvOf R b))
  | .alloc t => match cf.E.zero t with
    | some z => val (exAlloc cf.E O sl t (.d z))
    | none => none
  | .box t x => val (exAlloc cf.E O sl t (rvOf R x))
  | .build t parts => val (exBuild cf.E t (parts.toList.map fun p => (p.1, rvOf R p.2)))
  | .buildSlice t n parts => val (exBuildSlice cf.E O sl t n (parts.toList.map fun p => (p.1, rvOf R p.2)))
  | .load t x => val (exLoad cf.E O t (rvOf R x))
  | .store t x y => match exStore cf.E O t (rvOf R x) (rvOf R y) with
    | some r => some ({ r with val := .bot }, true)
    | none => none
  | .nilCheck x => val (exNil (rvOf R x))
  | .binOp op t x y _ => val (exBinO cf.E O op t (rvOf R x) (rvOf R y))
  | .unOp op _ x => val (exUn op (rvOf R x))
  | .convert s d x => val (exConv cf.E O sl s d (rvOf R x))
  | .slice t x lo hi mx => val (exSlice cf.E O t (rvOf R x) (lo.map (rvOf R)) (hi.map (rvOf R)) (mx.map (rvOf R)))
  | .fieldAddr t x f => val (exFieldAddr cf.E t (rvOf R x) f)
  | .field t x f => val (exField cf.E t (rvOf R x) f)
  | .indexAddr t x i => val (exIndexAddr cf.E O t (rvOf R x) (rvOf R i))
  | .index t x i => val (exIndex cf.E t (rvOf R x) (rvOf R i))
  | .extract x i => val (exExtract (rvOf R x) i)
  | .makeFunc fn first caps => val (exMakeFunc O fn (first.toList.map (rvOf R)) (caps.toList.map (rvOf R)))
  | .makeSlice t l c => val (exMakeSlice cf.E O sl t (rvOf R l) (rvOf R c))
  | .makeMap _ h => val (exMakeMap O sl (h.map (rvOf R)))
  | .lookup t x i ok => val (exLookup cf.E O t (rvOf R x) (rvOf R i) ok)
  | .mapUpdate t m k v => match exMapUpdate cf.E O t (rvOf R m) (rvOf R k) (rvOf R v) with
    | some r => some ({ r with val := .bot }, true)
    | none => none
  | .call c => match c.callee with
    | .builtin b => val (exBuiltin cf O sl b c.argTypes.toList (c.args.toList.map (rvOf R)))
    | .value f => match rvOf R f with
      | .clo (.func g) first caps => bif cf.callOk g then val (exCallF cf.K (cf.byref g) O sl g (first ++ c.args.toList.map (rvOf R) ++ caps)) else none
      | _ => none
    | _ => none
  | _ => none

structure CfOk (P : Program) (cf : Cfg) : Prop where
  E : cf.E = Env.of P
  K : KSound P cf.K
  call : ∀ f, cf.callOk f = true → callOk P f = true

theorem rvOf_ok {κ : Kap} {φ : Phi} {w : World} {s : SSt} {a : Act} (F : FRel κ φ w s a) (x : Operand) : RVR κ φ s.O w.heap (rvOf s.R x) (a.eval x) := by
  cases x with
  | tmp t => exact F.regs t
  | const v =>
    simp only [rvOf, Act.eval]
    cases h : DV.ofVal v with
    | none => exact .bot _
    | some x => exact .d (ofVal_DR h)
  | global g => exact .bot _
  | func f => exact .clo rfl rfl (by simp) (by simp)

theorem map_rel {κ : Kap} {φ : Phi} {w : World} {s : SSt} {a : Act} (F : FRel κ φ w s a) (l : Array Operand) : ∀ (i : Nat) (x : RV) (v : Value), (l.toList.map (rvOf s.R))[i]? = some x → (l.map a.eval)[i]? = some v → RVR κ φ s.O w.heap x v := by
  intro i x v hx hv
  simp only [List.getElem?_map, Array.getElem?_toList] at hx
  simp only [Array.getElem?_map] at hv
  cases h : l[i]? with
  | none => rw [h] at hx; simp at hx
  | some o => rw [h] at hx hv; simp at hx hv; subst hx; subst hv; exact rvOf_ok F o

theorem parts_rel {κ : Kap} {φ : Phi} {w : World} {s : SSt} {a : Act} (F : FRel κ φ w s a) (l : Array (Nat × Operand)) :
    (l.map fun (i, x) => (i, a.eval x)).size = (l.toList.map fun p => (p.1, rvOf s.R p.2)).length ∧
    ∀ (k : Nat) (p : Nat × RV) (q : Nat × Value), (l.toList.map fun p => (p.1, rvOf s.R p.2))[k]? = some p → (l.map fun (i, x) => (i, a.eval x))[k]? = some q → p.1 = q.1 ∧ RVR κ φ s.O w.heap p.2 q.2 := by
  refine ⟨by simp, fun k p q hp hq => ?_⟩
  simp only [List.getElem?_map, Array.getElem?_toList] at hp
  simp only [Array.getElem?_map] at hq
  cases h : l[k]? with
  | none => rw [h] at hp; simp at hp
  | some o => rw [h] at hp hq; simp at hp hq; subst hp; subst hq; exact ⟨rfl, rvOf_ok F o.2⟩

theorem opt_rel {κ : Kap} {φ : Phi} {w : World} {s : SSt} {a : Act} (F : FRel κ φ w s a) (l : Option Operand) : ORel κ φ s.O w.heap (l.map (rvOf s.R)) (l.map a.eval) := by
  cases l with
  | none => exact .none
  | some o => exact .some (rvOf_ok F o)

theorem pick_ok {κ : Kap} {φ : Phi} {w : World} {s : SSt} {a : Act} (F : FRel κ φ w s a) {x y z : RV} {v u t : Value} {res : Res}
    (hx : exPick x y z = some res) (r : RVR κ φ s.O w.heap x v) (r2 : RVR κ φ s.O w.heap y u) (r3 : RVR κ φ s.O w.heap z t) :
    Out P κ φ w s a res.val res.upd (do pure (if ← asBool v then u else t)) := by
  unfold exPick at hx
  split at hx
  · rename_i c
    cases r with
    | d hr =>
    cases hr
    have hrun : (do pure (if ← asBool (.bool c) then u else t) : Sem Value).run P w = .ok (if c then u else t) w := by simp [asBool]
    split at hx
    · injection hx with hx; subst hx
      cases r2 with
      | d h2 =>
      cases r3 with
      | d h3 =>
      cases h2; cases h3
      refine Out.pure F hrun (.d ?_)
      cases c <;> exact .bool _
    · injection hx with hx; subst hx
      refine Out.pure F hrun ?_
      cases c
      · exact r3
      · exact r2
  · simp at hx

theorem makeFunc_ok {κ : Kap} {φ : Phi} {w : World} {s : SSt} {a : Act} (F : FRel κ φ w s a) {fn : Fn} {fs cs : List RV} {f c : Array Value} {res : Res}
    (hx : exMakeFunc s.O fn fs cs = some res) (hc : ∀ b ∈ res.conds, b = true) (hl1 : f.size = fs.length) (hl2 : c.size = cs.length)
    (h1 : ∀ (i : Nat) (x : RV) (v : Value), fs[i]? = some x → f[i]? = some v → RVR κ φ s.O w.heap x v) (h2 : ∀ (i : Nat) (x : RV) (v : Value), cs[i]? = some x → c[i]? = some v → RVR κ φ s.O w.heap x v) :
    Out P κ φ w s a res.val res.upd (Instr.makeFunc fn f c) := by
  unfold exMakeFunc at hx
  cases hp : prepAll s.O (fs ++ cs) with
  | none => rw [hp] at hx; simp at hx
  | some p =>
    obtain ⟨l, u, cc⟩ := p
    rw [hp] at hx; simp only [Option.some.injEq] at hx; subst hx
    obtain ⟨κ1, q1, q2, q3, _, q5, q6⟩ := prepAll_ok F (Frzd.refl _) hp hc (vs := (f ++ c).toList) (by simp; omega) (fun i x v hx hv => by
      by_cases hi : i < fs.length
      · rw [List.getElem?_append_left hi] at hx
        simp only [Array.toList_append] at hv
        rw [List.getElem?_append_left (by simpa using by omega)] at hv
        exact h1 i x v hx (by simpa using hv)
      · rw [List.getElem?_append_right (by omega)] at hx
        simp only [Array.toList_append] at hv
        rw [List.getElem?_append_right (by simpa using by omega)] at hv
        refine h2 _ x v hx ?_
        rw [← hl1]; simpa using hv)
    refine ⟨.func fn f c, w, κ1, φ, rfl, q1, .clo (by simp at q5; simp; omega) (by simp at q5; simp; omega) (fun i x v hx hv => ?_) (fun i x v hx hv => ?_), q3, q2.kp⟩
    · rw [List.getElem?_take] at hx
      split at hx
      · refine q6 i x v hx ?_
        rw [Array.toList_append, List.getElem?_append_left (by simpa using by omega)]; simpa using hv
      · simp at hx
    · rw [List.getElem?_drop] at hx
      refine q6 _ x v hx ?_
      rw [Array.toList_append, List.getElem?_append_right (by simpa using by omega)]
      have : fs.length + i - f.toList.length = i := by simp; omega
      rw [this]; simpa using hv

theorem wp_value {o : Oper} {a : Act} {w w' : World} {next : Act → World → Prop} {Q : Exit → Act → World → Prop} {v : Value} (h : (execOp a.eval o).run P w = .ok (.value v) w') (hn : next (a.put o.dst v) w') : o.wp P a w next Q := by
  unfold Oper.wp; rw [h]; exact hn
theorem wp_skip' {o : Oper} {a : Act} {w w' : World} {next : Act → World → Prop} {Q : Exit → Act → World → Prop} (h : (execOp a.eval o).run P w = .ok .skip w') (hn : next (a.put o.dst undef) w') : o.wp P a w next Q := by
  unfold Oper.wp; rw [h]; exact hn

theorem op_wp {κ : Kap} {φ : Phi} {w : World} {s : SSt} {a : Act} {cf : Cfg} (hcf : CfOk P cf) (F : FRel κ φ w s a) {sl : Nat} {o : Oper} {res : Res} {un : Bool} {next : Act → World → Prop} {Q : Exit → Act → World → Prop}
    (hx : exOp cf s.R s.O sl o = some (res, un)) (hc : ∀ b ∈ res.conds, b = true)
    (hn : ∀ v w' κ' φ', FRel κ' φ' w' { s with O := updO s.O res.upd } a → RVR κ' φ' (updO s.O res.upd) w'.heap res.val v → Fr κ w κ' w' → Kp φ s.O φ' (updO s.O res.upd) → next (a.put o.dst v) w') :
    o.wp P a w next Q := by
  obtain ⟨hE, hK, hcall⟩ := hcf
  unfold exOp at hx
  rw [hE] at hx
  have fin : ∀ (m : Sem Value), execOp a.eval o = (do pure (Next.value (← m))) → Out P κ φ w s a res.val res.upd m → o.wp P a w next Q := by
    rintro m he ⟨v, w', κ', φ', h1, h2, h3, h4, h5⟩
    exact wp_value (by rw [he]; simp [h1]) (hn v w' κ' φ' h2 h3 h4 h5)
  have val : ∀ (r : Option Res), (match r with | some r => some (r, false) | none => none) = some (res, un) → r = some res := by
    intro r h; cases r with
    | none => simp at h
    | some r => simp at h; rw [h.1]
  cases ho : o.op <;> rw [ho] at hx <;> (try simp only at hx) <;> try (simp at hx; done)
  case move x =>
    injection hx with hx; injection hx with hx hx2; subst hx
    exact wp_value (v := a.eval x) (by simp [execOp, ho]) (hn _ w κ φ F (rvOf_ok F x) (Fr.refl _ _) (Kp.refl _ _))
  case assign x =>
    injection hx with hx; injection hx with hx hx2; subst hx
    exact wp_value (v := a.eval x) (by simp [execOp, ho]) (hn _ w κ φ F (rvOf_ok F x) (Fr.refl _ _) (Kp.refl _ _))
  case pick c x y =>
    have := pick_ok (P := P) F (val _ hx) (rvOf_ok F c) (rvOf_ok F x) (rvOf_ok F y)
    exact fin _ (by simp [execOp, ho]) this
  case alloc t =>
    cases hz : (Env.of P).zero t with
    | none => rw [hz] at hx; simp at hx
    | some z =>
      rw [hz] at hx; simp only at hx
      obtain ⟨i, v, h1, h2, h3⟩ := zero_of hz
      have := alloc_ok F (val _ hx) (v := v) (.d (ofVal_DR h3))
      obtain ⟨v', w', κ', φ', g1, g2, g3, g4, g5⟩ := this
      have hzr : (zeroValue t).run P w = .ok v w := by simp [zeroValue, typeInfo, h1, h2]
      refine wp_value (v := v') (w' := w') ?_ (hn v' w' κ' φ' g2 g3 g4 g5)
      simp only [Sem.run_bind, Sem.run_pure] at g1
      simp only [execOp, ho, Instr.alloc, Sem.run_bind, hzr, Result.andThen_ok, Sem.run_pure, g1]
  case box t x =>
    exact fin _ (by simp [execOp, ho, Instr.box]) (alloc_ok F (val _ hx) (rvOf_ok F x))
  case build t parts =>
    obtain ⟨p1, p2⟩ := parts_rel F parts
    exact fin _ (by simp only [execOp, ho]) (build_ok F (val _ hx) p1 p2)
  case buildSlice t n parts =>
    obtain ⟨p1, p2⟩ := parts_rel F parts
    exact fin _ (by simp only [execOp, ho]) (buildSlice_ok F (val _ hx) hc p1 p2)
  case load t x => exact fin _ (by simp only [execOp, ho]) (load_ok F (val _ hx) hc (rvOf_ok F x))
  case store t x y =>
    cases hs : exStore (Env.of P) s.O t (rvOf s.R x) (rvOf s.R y) with
    | none => rw [hs] at hx; simp at hx
    | some r =>
      rw [hs] at hx; simp only [Option.some.injEq, Prod.mk.injEq] at hx
      obtain ⟨rfl, rfl⟩ := hx
      obtain ⟨w', κ', φ', h1, h2, h3, h4⟩ := store_ok F hs hc (rvOf_ok F x) (rvOf_ok F y)
      exact wp_skip' (by simp only [execOp, ho]; simp [h1]) (hn _ w' κ' φ' h2 (.bot _) h3 h4)
  case nilCheck x =>
    have hv := val _ hx
    have r := rvOf_ok F x
    unfold exNil at hv
    cases hr : rvOf s.R x <;> rw [hr] at hv r <;> (try simp only at hv) <;> try (simp at hv; done)
    case ptr i off =>
      injection hv with hv; subst hv
      cases hv2 : a.eval x <;> rw [hv2] at r <;> try (cases r; done)
      rename_i ad
      cases r
      exact wp_value (by simp only [execOp, ho, hv2]; rfl) (hn _ w κ φ F (.ptr (by assumption)) (Fr.refl _ _) (Kp.refl _ _))
    case eptr i sz idx off =>
      injection hv with hv; subst hv
      cases hv2 : a.eval x <;> rw [hv2] at r <;> try (cases r; done)
      cases r
      exact wp_value (by simp only [execOp, ho, hv2]; rfl) (hn _ w κ φ F (.eptr (by assumption)) (Fr.refl _ _) (Kp.refl _ _))
    case iptr y off =>
      injection hv with hv; subst hv
      cases hv2 : a.eval x <;> rw [hv2] at r <;> try (cases r; done)
      have r' := r
      cases r
      exact wp_value (by simp only [execOp, ho, hv2]; rfl) (hn _ w κ φ F r' (Fr.refl _ _) (Kp.refl _ _))
    case clo fn fs cs =>
      cases fn <;> (try simp only at hv) <;> try (simp at hv; done)
      injection hv with hv; subst hv
      cases hv2 : a.eval x <;> rw [hv2] at r <;> try (cases r; done)
      have r' := r
      cases r
      exact wp_value (by simp only [execOp, ho, hv2]; rfl) (hn _ w κ φ F r' (Fr.refl _ _) (Kp.refl _ _))
  case binOp op t x y yt => exact fin _ (by simp only [execOp, ho]) (binO_ok (xo := x) (yo := y) F (val _ hx) hc (rvOf_ok F x) (rvOf_ok F y))
  case unOp op t x => exact fin _ (by simp only [execOp, ho]) (un_ok F (val _ hx) (rvOf_ok F x))
  case convert src dst x => exact fin _ (by simp only [execOp, ho]) (conv_ok F (val _ hx) hc (rvOf_ok F x))
  case slice t x lo hi mx => exact fin _ (by simp only [execOp, ho]) (slice_ok F (val _ hx) hc (rvOf_ok F x) (opt_rel F lo) (opt_rel F hi) (opt_rel F mx))
  case fieldAddr t x f => exact fin _ (by simp only [execOp, ho]) (fieldAddr_ok F (val _ hx) (rvOf_ok F x))
  case field t x f => exact fin _ (by simp only [execOp, ho]) (field_ok F (val _ hx) (rvOf_ok F x))
  case indexAddr t x i => exact fin _ (by simp only [execOp, ho]) (indexAddr_ok F (val _ hx) hc (rvOf_ok F x) (rvOf_ok F i))
  case index t x i => exact fin _ (by simp only [execOp, ho]) (index_ok F (val _ hx) hc (rvOf_ok F x) (rvOf_ok F i))
  case extract x i => exact fin _ (by simp only [execOp, ho]) (extract_ok F (val _ hx) (rvOf_ok F x))
  case makeFunc fn first caps =>
    exact fin _ (by simp only [execOp, ho]) (makeFunc_ok F (val _ hx) hc (by simp) (by simp) (map_rel F first) (map_rel F caps))
  case makeSlice t l c => exact fin _ (by simp only [execOp, ho]) (makeSlice_ok F (val _ hx) hc (rvOf_ok F l) (rvOf_ok F c))
  case makeMap t h =>
    have hv := val _ hx
    cases h with
    | none => exact fin _ (by simp only [execOp, ho]; rfl) (makeMap_ok (t := t) F hv)
    | some y => unfold exMakeMap at hv; simp only [Option.map_some] at hv; split at hv <;> simp_all
  case lookup t x i ok => exact fin _ (by simp only [execOp, ho]) (lookup_ok F (val _ hx) hc (rvOf_ok F x) (rvOf_ok F i))
  case mapUpdate t m k y =>
    cases hs : exMapUpdate (Env.of P) s.O t (rvOf s.R m) (rvOf s.R k) (rvOf s.R y) with
    | none => rw [hs] at hx; simp at hx
    | some r =>
      rw [hs] at hx; simp only [Option.some.injEq, Prod.mk.injEq] at hx
      obtain ⟨rfl, rfl⟩ := hx
      obtain ⟨w', κ', φ', h1, h2, h3, h4⟩ := mapUpdate_ok F hs hc (rvOf_ok F m) (rvOf_ok F k) (rvOf_ok F y)
      exact wp_skip' (by simp only [execOp, ho]; simp [h1]) (hn _ w' κ' φ' h2 (.bot _) h3 h4)
  case call c =>
    cases hcal : c.callee <;> rw [hcal] at hx <;> (try simp only at hx) <;> try (simp at hx; done)
    case builtin b =>
      have hv := val _ hx
      have hargs := map_rel F c.args
      have hexec : execOp a.eval o = builtin b c.argTypes o.type (c.args.map fun | .const _ => true | _ => false) (c.args.map a.eval) := by
        simp only [execOp, ho, resolve, hcal]; rfl
      have finB : ∀ (m : Sem Value), builtin b c.argTypes o.type (c.args.map fun | .const _ => true | _ => false) (c.args.map a.eval) = (do pure (Next.value (← m))) → Out P κ φ w s a res.val res.upd m → o.wp P a w next Q :=
        fun m h1 h2 => fin m (by rw [hexec, h1]) h2
      unfold exBuiltin at hv
      rw [hE] at hv
      have two : ∀ (n : Nat), (c.args.toList.map (rvOf s.R)).length = n → c.args.size = n := by intro n h; simpa using h
      split at hv
      · rename_i t x ht hargl
        have hsz : c.args.size = 1 := two 1 (by rw [hargl]; rfl)
        have ha : c.args.map a.eval = #[a.eval c.args[0]] := by
          apply Array.ext
          · simp [hsz]
          · intro i h1 h2; simp at h2; subst h2; simp
        have hty : c.argTypes = #[t] := by have := congrArg List.toArray ht; simpa using this
        have r0 := hargs 0 x (a.eval c.args[0]) (by rw [hargl]; rfl) (by rw [ha]; rfl)
        refine finB (Builtin.len_ #[t] o.type #[a.eval c.args[0]]) ?_ (len_ok F hv r0)
        rw [ha, hty]; rfl
      · rename_i t t2 x y ht hargl
        have hsz : c.args.size = 2 := two 2 (by rw [hargl]; rfl)
        have ha : c.args.map a.eval = #[a.eval c.args[0], a.eval c.args[1]] := by
          apply Array.ext
          · simp [hsz]
          · intro i h1 h2
            simp at h2
            have : i = 0 ∨ i = 1 := by omega
            rcases this with rfl | rfl <;> simp
        have hty : c.argTypes = #[t, t2] := by have := congrArg List.toArray ht; simpa using this
        have r0 := hargs 0 x (a.eval c.args[0]) (by rw [hargl]; rfl) (by rw [ha]; rfl)
        have r1 := hargs 1 y (a.eval c.args[1]) (by rw [hargl]; rfl) (by rw [ha]; rfl)
        cases hni : notIntB ((Env.of P).und t2) with
        | false => rw [hni] at hv; simp at hv
        | true =>
          rw [hni] at hv; simp only [cond_true] at hv
          cases hu2 : (Env.of P).und t2 with
          | none => rw [hu2] at hni; simp [notIntB] at hni
          | some d2 =>
            rw [hu2] at hni
            have hout := append_ok F hv hc hu2 (fun k e => by subst e; simp [notIntB] at hni) r0 r1
            refine finB (Builtin.append_ #[t, t2] o.type #[a.eval c.args[0], a.eval c.args[1]]) (by rw [ha, hty]; rfl) ?_
            exact hout
      · rename_i x y hargl
        have hsz : c.args.size = 2 := two 2 (by rw [hargl]; rfl)
        have ha : c.args.map a.eval = #[a.eval c.args[0], a.eval c.args[1]] := by
          apply Array.ext
          · simp [hsz]
          · intro i h1 h2
            simp at h2
            have : i = 0 ∨ i = 1 := by omega
            rcases this with rfl | rfl <;> simp
        have r0 := hargs 0 x (a.eval c.args[0]) (by rw [hargl]; rfl) (by rw [ha]; rfl)
        have r1 := hargs 1 y (a.eval c.args[1]) (by rw [hargl]; rfl) (by rw [ha]; rfl)
        refine finB (Builtin.min_ c.argTypes o.type #[a.eval c.args[0], a.eval c.args[1]]) (by rw [ha]; rfl) ?_
        have := minmax_ok (P := P) (tys := c.argTypes) (ty := o.type) F hv r0 r1
        simpa using this
      · rename_i x y hargl
        have hsz : c.args.size = 2 := two 2 (by rw [hargl]; rfl)
        have ha : c.args.map a.eval = #[a.eval c.args[0], a.eval c.args[1]] := by
          apply Array.ext
          · simp [hsz]
          · intro i h1 h2
            simp at h2
            have : i = 0 ∨ i = 1 := by omega
            rcases this with rfl | rfl <;> simp
        have r0 := hargs 0 x (a.eval c.args[0]) (by rw [hargl]; rfl) (by rw [ha]; rfl)
        have r1 := hargs 1 y (a.eval c.args[1]) (by rw [hargl]; rfl) (by rw [ha]; rfl)
        refine finB (Builtin.max_ c.argTypes o.type #[a.eval c.args[0], a.eval c.args[1]]) (by rw [ha]; rfl) ?_
        have := minmax_ok (P := P) (tys := c.argTypes) (ty := o.type) F hv r0 r1
        simpa using this
      · rename_i t t2 x y ht hargl
        have hsz : c.args.size = 2 := two 2 (by rw [hargl]; rfl)
        have ha : c.args.map a.eval = #[a.eval c.args[0], a.eval c.args[1]] := by
          apply Array.ext
          · simp [hsz]
          · intro i h1 h2
            simp at h2
            have : i = 0 ∨ i = 1 := by omega
            rcases this with rfl | rfl <;> simp
        have hty : c.argTypes = #[t, t2] := by have := congrArg List.toArray ht; simpa using this
        have r0 := hargs 0 x (a.eval c.args[0]) (by rw [hargl]; rfl) (by rw [ha]; rfl)
        have r1 := hargs 1 y (a.eval c.args[1]) (by rw [hargl]; rfl) (by rw [ha]; rfl)
        exact finB (Builtin.delete_ #[t, t2] o.type #[a.eval c.args[0], a.eval c.args[1]]) (by rw [ha, hty]; rfl) (delete_ok F hv hc r0 r1)
      · rename_i t x ht hargl
        have hsz : c.args.size = 1 := two 1 (by rw [hargl]; rfl)
        have ha : c.args.map a.eval = #[a.eval c.args[0]] := by
          apply Array.ext
          · simp [hsz]
          · intro i h1 h2; simp at h2; subst h2; simp
        have hty : c.argTypes = #[t] := by have := congrArg List.toArray ht; simpa using this
        have r0 := hargs 0 x (a.eval c.args[0]) (by rw [hargl]; rfl) (by rw [ha]; rfl)
        exact finB (Builtin.clear_ #[t] o.type #[a.eval c.args[0]]) (by rw [ha, hty]; rfl) (clear_ok F hv hc r0)
      · simp at hv
    case value f =>
      have rf := rvOf_ok F f
      cases hrf : rvOf s.R f <;> rw [hrf] at hx rf <;> (try simp only at hx) <;> try (simp at hx; done)
      rename_i fn first caps
      cases fn <;> (try simp only at hx) <;> try (simp at hx; done)
      rename_i g
      cases hok : cf.callOk g with
      | false => rw [hok] at hx; simp at hx
      | true =>
        rw [hok] at hx; simp only [cond_true] at hx
        have hv := val _ hx
        generalize hev : a.eval f = fv at rf
        cases rf with
        | clo h1 h2 h3 h4 =>
          rename_i fa ca
          have hargs := map_rel F c.args
          have hexec : (execOp a.eval o).run P w = .ok (.enter g (fa ++ c.args.map a.eval ++ ca)) w := by
            simp only [execOp, ho, resolve, hcal, hev, Deferred.ofValue, Sem.run_bind, Sem.run_pure, Result.andThen_ok, invoke]
            exact run_callFunc (hcall g hok) _ w
          have hcalls := callF_ok F hK hv hc (vs := fa ++ c.args.map a.eval ++ ca) (by simp; omega) (fun i x v hx hv => by
            by_cases k1 : i < first.length
            · rw [List.append_assoc, List.getElem?_append_left k1] at hx
              rw [Array.append_assoc, Array.getElem?_append_left (by omega)] at hv
              exact h3 i x v hx hv
            · rw [List.append_assoc, List.getElem?_append_right (by omega)] at hx
              rw [Array.append_assoc, Array.getElem?_append_right (by omega)] at hv
              by_cases k2 : i - first.length < c.args.size
              · rw [List.getElem?_append_left (by simpa using k2)] at hx
                rw [Array.getElem?_append_left (by simp; omega)] at hv
                exact hargs _ x v hx (by rw [← h1]; exact hv)
              · rw [List.getElem?_append_right (by simp; omega)] at hx
                rw [Array.getElem?_append_right (by simp; omega)] at hv
                refine h4 _ x v hx ?_
                rw [← hv]; congr 1; simp; omega)
          unfold Oper.wp
          rw [hexec]
          refine hcalls.mono ?_
          rintro e w' ⟨v, κ', φ', rfl, g1, g2, g3, g4⟩
          exact hn v w' κ' φ' g1 g2 g3 g4

end Go.Am

/-
  The abstract machine: runs of straight code.
-/
namespace Go.Am
variable {P : Program}

/-- A state, as tables: so many registers; the first objects are the caller's. -/
structure ESt where
  n : Nat
  m : Nat
  regs : T RV
  objs : T PObj

def regOf (t : T RV) (i : Nat) : RV :=
  match t.get i with
  | some v => v
  | none => .bot

def ESt.den (st : ESt) : SSt := { n := st.n, R := regOf st.regs, O := st.objs.get }

def setAll (o : T PObj) : List (Nat × PObj) → T PObj
  | [] => o
  | (i, p) :: r => setAll (o.set i (some p)) r

def smallU (u : List (Nat × PObj)) : Bool := u.all fun p => Nat.ble p.1 65000

theorem setAll_get : ∀ (u : List (Nat × PObj)) (o : T PObj), smallU u = true → (setAll o u).get = updO o.get u
  | [], _, _ => rfl
  | (i, p) :: r, o, h => by
    simp only [smallU, List.all_cons, Bool.and_eq_true] at h
    have hi := Nat.le_of_ble_eq_true h.1
    simp only [setAll]
    rw [setAll_get r _ h.2]
    have : (o.set i (some p)).get = setT o.get i (some p) := by
      funext j
      by_cases e : j = i
      · subst e; rw [T.get_set_same _ (by omega), setT_same]
      · rw [T.get_set_ne _ e, setT_ne _ _ e]
    rw [this]; rfl

theorem regOf_set {t : T RV} {d : Nat} (hd : d < 65535) (v : RV) : regOf (t.set d (some v)) = setR (regOf t) d v := by
  funext i
  unfold regOf setR
  by_cases e : i = d
  · subst e; rw [T.get_set_same _ hd]; simp
  · rw [T.get_set_ne _ e]; simp [e]

abbrev Ov := List (Nat × RV)

def findOv (d : Nat) : Ov → Option RV
  | [] => none
  | (t, v) :: r => bif Nat.beq t d then some v else findOv d r

/-- One value says no more than another one. -/
def RVle (x y : RV) : Prop := ∀ κ φ O h v, RVR κ φ O h x v → RVR κ φ O h y v
theorem RVle.of_eq {x y : RV} (h : x = y) : RVle x y := fun _ _ _ _ _ r => h ▸ r

structure Acc where
  st : ESt
  cs : List Bool
  es : List (RV × RV)

def free8 (o : T PObj) (s : Nat) : Bool := (o.get s).isNone && (o.get (s + 1)).isNone && (o.get (s + 2)).isNone && (o.get (s + 3)).isNone && (o.get (s + 4)).isNone && (o.get (s + 5)).isNone && (o.get (s + 6)).isNone && (o.get (s + 7)).isNone

def findSlot (o : T PObj) : Nat → Nat → Nat
  | 0, s => s
  | f + 1, s => bif free8 o s then s else findSlot o f (s + 8)

/-- Where an operation's new objects lie: at its register's own place, or at the first that is free. -/
def slotOf (st : ESt) (o : Oper) : Nat :=
  bif free8 st.objs (match o.dst with | some d => 64 + 8 * d | none => 64 + 8 * st.n) then (match o.dst with | some d => 64 + 8 * d | none => 64 + 8 * st.n)
  else findSlot st.objs 4000 (64 + 8 * (st.n + 1))

/-- Does an operation's guard let it run? -/
def guardOf (R : Nat → RV) (ops : Array Oper) (o : Oper) : Option Bool :=
  match o.guard with
  | none => some true
  | some (j, want) => match ops[j]? with
    | some g => match g.dst with
      | some t => match R t with
        | .d (.bool b) => some (b == want)
        | .und => some false
        | _ => none
      | none => none
    | none => none

def putReg (st : ESt) (dst : Option Nat) (v : RV) : Option ESt :=
  match dst with
  | none => some st
  | some d => bif Nat.ble (d + 1) st.n && Nat.ble d 8000 then some { st with regs := st.regs.set d (some v) } else none

def runOp (cf : Cfg) (ops : Array Oper) (ov : Ov) (o : Oper) (ac : Acc) : Option Acc :=
  match guardOf (regOf ac.st.regs) ops o with
  | none => none
  | some false => match putReg ac.st o.dst .und with
    | some st => some { ac with st := st }
    | none => none
  | some true => match exOp cf (regOf ac.st.regs) ac.st.objs.get (slotOf ac.st o) o with
    | none => none
    | some (res, _) => bif smallU res.upd then
        match o.dst with
        | none => some { st := { ac.st with objs := setAll ac.st.objs res.upd }, cs := ac.cs ++ res.conds, es := ac.es }
        | some d => match findOv d ov with
          | none => match putReg { ac.st with objs := setAll ac.st.objs res.upd } (some d) res.val with
            | some st => some { st := st, cs := ac.cs ++ res.conds, es := ac.es }
            | none => none
          | some v => match putReg { ac.st with objs := setAll ac.st.objs res.upd } (some d) v with
            | some st => some { st := st, cs := ac.cs ++ res.conds, es := ac.es ++ [(res.val, v)] }
            | none => none
      else none

def runOps (cf : Cfg) (ops : Array Oper) (ov : Ov) : List Oper → Acc → Option Acc
  | [], ac => some ac
  | o :: r, ac => match runOp cf ops ov o ac with
    | some ac' => runOps cf ops ov r ac'
    | none => none

theorem putReg_den {st st' : ESt} {dst : Option Nat} {v : RV} (h : putReg st dst v = some st') : st'.n = st.n ∧ st'.m = st.m ∧ st'.objs = st.objs ∧
    ((dst = none ∧ st' = st) ∨ ∃ d, dst = some d ∧ d < st.n ∧ st'.den = { st.den with R := setR st.den.R d v }) := by
  unfold putReg at h
  cases dst with
  | none => injection h with h; subst h; exact ⟨rfl, rfl, rfl, .inl ⟨rfl, rfl⟩⟩
  | some d =>
    simp only at h
    cases hg : (Nat.ble (d + 1) st.n && Nat.ble d 8000) with
    | false => rw [hg] at h; simp at h
    | true =>
      rw [hg] at h; simp only [cond_true, Option.some.injEq] at h; subst h
      simp only [Bool.and_eq_true] at hg
      have h1 := Nat.le_of_ble_eq_true hg.1
      have h2 := Nat.le_of_ble_eq_true hg.2
      refine ⟨rfl, rfl, rfl, .inr ⟨d, rfl, by omega, ?_⟩⟩
      simp only [ESt.den, regOf_set (show d < 65535 by omega)]

theorem FRel.putReg {κ : Kap} {φ : Phi} {w : World} {st st' : ESt} {a : Act} {dst : Option Nat} {rv : RV} {v : Value} (F : FRel κ φ w st.den a) (h : Am.putReg st dst rv = some st')
    (hr : RVR κ φ st.den.O w.heap rv v) : FRel κ φ w st'.den (a.put dst v) := by
  obtain ⟨_, _, _, h4⟩ := putReg_den h
  rcases h4 with ⟨rfl, rfl⟩ | ⟨d, rfl, hd, e⟩
  · exact F.putNone v
  · rw [e]; exact F.put hd hr

theorem runOp_cs {cf : Cfg} {ops : Array Oper} {ov : Ov} {o : Oper} {ac ac' : Acc} (h : runOp cf ops ov o ac = some ac') : (∀ c ∈ ac.cs, c ∈ ac'.cs) ∧ (∀ e ∈ ac.es, e ∈ ac'.es) ∧ ac'.st.m = ac.st.m ∧ ac'.st.n = ac.st.n := by
  unfold runOp at h
  split at h
  · simp at h
  · split at h
    · rename_i st hp
      injection h with h; subst h
      obtain ⟨h1, h2, _⟩ := putReg_den hp
      exact ⟨fun c hc => hc, fun e he => he, h2, h1⟩
    · simp at h
  · split at h
    · simp at h
    · rename_i res un hex
      cases hs : smallU res.upd with
      | false => rw [hs] at h; simp at h
      | true =>
        rw [hs] at h; simp only [cond_true] at h
        split at h
        · injection h with h; subst h
          exact ⟨fun c hc => by simp [hc], fun e he => he, rfl, rfl⟩
        · split at h
          · split at h
            · rename_i st hp
              injection h with h; subst h
              obtain ⟨h1, h2, _⟩ := putReg_den hp
              exact ⟨fun c hc => by simp [hc], fun e he => he, h2, h1⟩
            · simp at h
          · split at h
            · rename_i st hp
              injection h with h; subst h
              obtain ⟨h1, h2, _⟩ := putReg_den hp
              exact ⟨fun c hc => by simp [hc], fun e he => by simp [he], h2, h1⟩
            · simp at h

theorem runOps_cs {cf : Cfg} {ops : Array Oper} {ov : Ov} : ∀ (l : List Oper) {ac ac' : Acc}, runOps cf ops ov l ac = some ac' → (∀ c ∈ ac.cs, c ∈ ac'.cs) ∧ (∀ e ∈ ac.es, e ∈ ac'.es) ∧ ac'.st.m = ac.st.m ∧ ac'.st.n = ac.st.n
  | [], ac, ac', h => by simp [runOps] at h; subst h; exact ⟨fun _ h => h, fun _ h => h, rfl, rfl⟩
  | o :: r, ac, ac', h => by
    simp only [runOps] at h
    cases h1 : runOp cf ops ov o ac with
    | none => rw [h1] at h; simp at h
    | some a1 =>
      rw [h1] at h; simp only at h
      obtain ⟨p1, p2, p3, p4⟩ := runOp_cs h1
      obtain ⟨q1, q2, q3, q4⟩ := runOps_cs r h
      exact ⟨fun c hc => q1 c (p1 c hc), fun e he => q2 e (p2 e he), q3.trans p3, q4.trans p4⟩

theorem guard_wanted {κ : Kap} {φ : Phi} {w : World} {s : SSt} {a : Act} (F : FRel κ φ w s a) {ops : Array Oper} {o : Oper} {g : Bool} (h : guardOf s.R ops o = some g)
    (hn : ∀ j want gg t, o.guard = some (j, want) → ops[j]? = some gg → gg.dst = some t → t < s.n) : Region.wanted o (yielded ops a.tmps) = g := by
  unfold guardOf at h
  unfold Region.wanted
  cases hg : o.guard with
  | none => rw [hg] at h; simp at h; simp [h]
  | some p =>
    obtain ⟨j, want⟩ := p
    rw [hg] at h; simp only at h
    cases ho : ops[j]? with
    | none => rw [ho] at h; simp at h
    | some gg =>
      rw [ho] at h; simp only at h
      cases hd : gg.dst with
      | none => rw [hd] at h; simp at h
      | some t =>
        rw [hd] at h; simp only at h
        have hr := F.regs t
        cases hR : s.R t <;> rw [hR] at h hr <;> (try simp only at h) <;> try (simp at h; done)
        case und =>
          injection h with h; subst h
          have hlt : t < a.tmps.size := by rw [F.n]; exact hn j want gg t hg ho hd
          generalize hv : a.tmps.getD t undef = v at hr
          cases hr
          have hget : a.tmps[t]? = some undef := by
            rw [Array.getElem?_eq_getElem hlt]
            rw [Array.getD_eq_getD_getElem?, Array.getElem?_eq_getElem hlt] at hv
            simpa using hv
          simp only [yielded, ho, Option.bind_some, hd, hget]
          cases want <;> rfl
        rename_i x
        cases x <;> (try simp only at h) <;> try (simp at h; done)
        rename_i b
        injection h with h; subst h
        have hlt : t < a.tmps.size := by rw [F.n]; exact hn j want gg t hg ho hd
        generalize hv : a.tmps.getD t undef = v at hr
        cases hr with
        | d hr =>
        cases hr
        have hget : a.tmps[t]? = some (.bool b) := by
          rw [Array.getElem?_eq_getElem hlt]
          rw [Array.getD_eq_getD_getElem?, Array.getElem?_eq_getElem hlt] at hv
          simpa using hv
        simp only [yielded, ho, Option.bind_some, hd, hget]
        cases b <;> cases want <;> rfl

/-- One operation, in a region's order. -/
theorem runOp_wp {κ : Kap} {φ : Phi} {w : World} {a : Act} {cf : Cfg} (hcf : CfOk P cf) {ops : Array Oper} {ov : Ov} {o : Oper} {ac ac' : Acc} (F : FRel κ φ w ac.st.den a)
    (h : runOp cf ops ov o ac = some ac') (hc : ∀ c ∈ ac'.cs, c = true) (he : ∀ e ∈ ac'.es, RVle e.1 e.2) {i : Nat} (hi : ops[i]? = some o)
    (hn : ∀ j want gg t, o.guard = some (j, want) → ops[j]? = some gg → gg.dst = some t → t < ac.st.n) {Q : Exit → Act → World → Prop} {K : Act → World → Prop}
    (hk : ∀ a' w' κ' φ', FRel κ' φ' w' ac'.st.den a' → Fr κ w κ' w' → Kp φ ac.st.den.O φ' ac'.st.den.O → K a' w') : wpOp P ops Q i K a w := by
  unfold runOp at h
  unfold wpOp
  rw [hi]; simp only
  split at h
  · simp at h
  · rename_i hg
    have hw := guard_wanted (s := ac.st.den) F hg hn
    rw [hw]
    simp only [Bool.false_eq_true, if_false]
    split at h
    · rename_i st hp
      injection h with h; subst h
      have hden := putReg_den hp
      refine hk _ _ κ φ (F.putReg hp .und) (Fr.refl _ _) ?_
      have : st.den.O = ac.st.den.O := by simp only [ESt.den, hden.2.2.1]
      simp only [this]; exact Kp.refl _ _
    · simp at h
  · rename_i hg
    have hw := guard_wanted (s := ac.st.den) F hg hn
    rw [hw]
    simp only [if_true]
    left
    split at h
    · simp at h
    · rename_i res un hex
      cases hs : smallU res.upd with
      | false => rw [hs] at h; simp at h
      | true =>
        rw [hs] at h; simp only [cond_true] at h
        have hO : (setAll ac.st.objs res.upd).get = updO ac.st.den.O res.upd := setAll_get _ _ hs
        have fin : ∀ (st : ESt) (rv : RV), putReg { ac.st with objs := setAll ac.st.objs res.upd } o.dst rv = some st → RVle res.val rv → (∀ c ∈ res.conds, c = true) → ac'.st = st →
            o.wp P a w K Q := by
          intro st rv hp hle hcc hst
          refine op_wp hcf F (sl := slotOf ac.st o) hex hcc (fun v w' κ' φ' g1 g2 g3 g4 => ?_)
          have F1 : FRel κ' φ' w' ({ ac.st with objs := setAll ac.st.objs res.upd } : ESt).den a := by
            have : ({ ac.st with objs := setAll ac.st.objs res.upd } : ESt).den = { ac.st.den with O := updO ac.st.den.O res.upd } := by simp only [ESt.den, hO]
            rw [this]; exact g1
          have hden := putReg_den hp
          have e2 : st.den.O = updO ac.st.den.O res.upd := by simp only [ESt.den, hden.2.2.1]; exact hO
          refine hk _ _ κ' φ' ?_ g3 ?_
          · rw [hst]
            refine F1.putReg hp (hle _ _ _ _ _ ?_)
            have : ({ ac.st with objs := setAll ac.st.objs res.upd } : ESt).den.O = updO ac.st.den.O res.upd := hO
            rw [this]; exact g2
          · rw [hst, e2]; exact g4
        split at h
        · rename_i hd
          injection h with h; subst h
          exact fin { ac.st with objs := setAll ac.st.objs res.upd } res.val (by rw [hd]; rfl) (fun _ _ _ _ _ r => r) (fun c hcc => hc c (by simp [hcc])) rfl
        · rename_i d hd
          split at h
          · split at h
            · rename_i st hp
              injection h with h; subst h
              exact fin st res.val (by rw [hd]; exact hp) (fun _ _ _ _ _ r => r) (fun c hcc => hc c (by simp [hcc])) rfl
            · simp at h
          · rename_i v hv
            split at h
            · rename_i st hp
              injection h with h; subst h
              exact fin st v (by rw [hd]; exact hp) (he (res.val, v) (by simp)) (fun c hcc => hc c (by simp [hcc])) rfl
            · simp at h

def guardsOk (n : Nat) (ops : Array Oper) : Bool := ops.toList.all fun o => match o.dst with
  | some t => Nat.ble (t + 1) n
  | none => true

theorem guardsOk_spec {n : Nat} {ops : Array Oper} (h : guardsOk n ops = true) : ∀ (j : Nat) (gg : Oper) (t : Nat), ops[j]? = some gg → gg.dst = some t → t < n := by
  intro j gg t hj ht
  have hm : gg ∈ ops.toList := List.mem_iff_getElem?.2 ⟨j, by simpa using hj⟩
  have := List.all_eq_true.1 h gg hm
  rw [ht] at this
  exact Nat.le_of_ble_eq_true this

theorem runOps_wp {cf : Cfg} (hcf : CfOk P cf) {ops : Array Oper} {ov : Ov} {Q : Exit → Act → World → Prop} : ∀ (l : List Oper) (k : Nat) {κ : Kap} {φ : Phi} {w : World} {a : Act} {ac ac' : Acc},
    FRel κ φ w ac.st.den a → runOps cf ops ov l ac = some ac' → (∀ c ∈ ac'.cs, c = true) → (∀ e ∈ ac'.es, RVle e.1 e.2) → guardsOk ac.st.n ops = true → (∀ i o, l[i]? = some o → ops[k + i]? = some o) →
    (∀ a' w' κ' φ', FRel κ' φ' w' ac'.st.den a' → Fr κ w κ' w' → Kp φ ac.st.den.O φ' ac'.st.den.O → Q .normal a' w') → wpOps P ops Q (List.range' k l.length) a w
  | [], k, κ, φ, w, a, ac, ac', F, h, hc, he, hg, hl, hk => by
    simp [runOps] at h; subst h
    exact hk a w κ φ F (Fr.refl _ _) (Kp.refl _ _)
  | o :: r, k, κ, φ, w, a, ac, ac', F, h, hc, he, hg, hl, hk => by
    simp only [runOps] at h
    cases h1 : runOp cf ops ov o ac with
    | none => rw [h1] at h; simp at h
    | some a1 =>
      rw [h1] at h; simp only at h
      obtain ⟨q1, q2, q3, q4⟩ := runOps_cs r h
      obtain ⟨p1, p2, p3, p4⟩ := runOp_cs h1
      have hk0 : ops[k]? = some o := by simpa using hl 0 o rfl
      simp only [List.length_cons, List.range'_succ]
      rw [wpOps_cons]
      refine runOp_wp hcf F h1 (fun c hc' => hc c (q1 c hc')) (fun e he' => he e (q2 e he')) hk0 (fun j want gg t _ hj ht => guardsOk_spec hg j gg t hj ht) (fun a' w' κ' φ' g1 g2 g3 => ?_)
      exact runOps_wp hcf r (k + 1) g1 h hc he (by rw [p4]; exact hg) (fun i o' hi => by have := hl (i + 1) o' (by simpa using hi); rw [← this]; congr 1; omega) (fun a2 w2 κ2 φ2 k1 k2 k3 => hk a2 w2 κ2 φ2 k1 (g2.trans k2) (g3.trans k3))

end Go.Am

/-
  The abstract machine: control; loops; a function's contract out of a run of its body.
-/
namespace Go.Am
variable {P : Program}

inductive It where
  | code (c : Code)
  | blk (id : Nat)
  | lp (c : Code)
  | scp (c : Code)

def It.item : It → Item
  | .code c => .code c
  | .blk id => .inBlock id
  | .lp c => .inLoop c
  | .scp c => .inScope c

/-- The first objects lie where they lay. -/
structure KpM (m : Nat) (φ : Phi) (O : Tab) (φ' : Phi) (O' : Tab) : Prop where
  phi : ∀ i, i < m → φ i ≠ .un → φ' i = φ i
  len : ∀ i n, i < m → φ i ≠ .un → PObj.len? (O' i) = some n → PObj.len? (O i) = some n

theorem Kp.m {φ φ' : Phi} {O O' : Tab} (h : Kp φ O φ' O') (m : Nat) : KpM m φ O φ' O' := ⟨fun i _ hi => h.phi i hi, fun i n _ hi hn => h.len i n hi hn⟩
theorem KpM.refl (m : Nat) (φ : Phi) (O : Tab) : KpM m φ O φ O := (Kp.refl φ O).m m
theorem KpM.trans {m : Nat} {φ φ' φ'' : Phi} {O O' O'' : Tab} (a : KpM m φ O φ' O') (b : KpM m φ' O' φ'' O'') : KpM m φ O φ'' O'' where
  phi := fun i hm hi => by rw [b.phi i hm (by rw [a.phi i hm hi]; exact hi), a.phi i hm hi]
  len := fun i n hm hi hn => a.len i n hm hi (b.len i n hm (by rw [a.phi i hm hi]; exact hi) hn)

/-- From a state, with so much code ahead, a run comes to its end, in a state of which Q holds. -/
def WK (P : Program) (m : Nat) (k : List It) (s : SSt) (Q : SSt → Prop) : Prop :=
  ∀ (κ : Kap) (φ : Phi) (w : World) (a : Act), FRel κ φ w s a → ∀ (b : Frame) (cs : List Frame), ∃ e a' w' κ' φ' s', (e = .normal ∨ e = .ret) ∧ Q s' ∧ FRel κ' φ' w' s' a' ∧
    Fr κ w κ' w' ∧ KpM m φ s.O φ' s'.O ∧ Arrives P (lone (b.at a (k.map It.item)) cs w) b [] cs e a' w'

theorem WK.done {m : Nat} {s : SSt} {Q : SSt → Prop} (h : Q s) : WK P m [] s Q := fun κ φ w a F _ _ =>
  ⟨.normal, a, w, κ, φ, s, .inl rfl, h, F, Fr.refl _ _, KpM.refl _ _ _, Steps.refl _ _⟩

theorem WK.step {m : Nat} {k k' : List It} {s s' : SSt} {Q : SSt → Prop} (h : WK P m k' s' Q)
    (hs : ∀ κ φ w a, FRel κ φ w s a → ∃ κ' φ' w' a', FRel κ' φ' w' s' a' ∧ Fr κ w κ' w' ∧ KpM m φ s.O φ' s'.O ∧ ∀ (b : Frame) (cs : List Frame), Steps P (lone (b.at a (k.map It.item)) cs w) (lone (b.at a' (k'.map It.item)) cs w')) : WK P m k s Q := by
  intro κ φ w a F b cs
  obtain ⟨κ1, φ1, w1, a1, F1, R1, K1, S1⟩ := hs κ φ w a F
  obtain ⟨e, a', w', κ', φ', s2, h1, h2, h3, h4, h5, h6⟩ := h κ1 φ1 w1 a1 F1 b cs
  exact ⟨e, a', w', κ', φ', s2, h1, h2, h3, R1.trans h4, K1.trans h5, h6.of_steps (S1 b cs)⟩

/-- The same state, other code. -/
theorem WK.code {m : Nat} {k k' : List It} {s : SSt} {Q : SSt → Prop} (h : WK P m k' s Q) (hs : ∀ κ φ w a, FRel κ φ w s a → ∀ (b : Frame) (cs : List Frame), Steps P (lone (b.at a (k.map It.item)) cs w) (lone (b.at a (k'.map It.item)) cs w)) : WK P m k s Q :=
  h.step fun κ φ w a F => ⟨κ, φ, w, a, F, Fr.refl _ _, KpM.refl _ _ _, hs κ φ w a F⟩

/-- The same code, a state of which less is said. -/
theorem WK.state {m : Nat} {k : List It} {s s' : SSt} {Q : SSt → Prop} (h : WK P m k s' Q) (hs : ∀ κ φ w a, FRel κ φ w s a → ∃ κ' φ', FRel κ' φ' w s' a ∧ Fr κ w κ' w ∧ KpM m φ s.O φ' s'.O) : WK P m k s Q :=
  h.step fun κ φ w a F => let ⟨κ', φ', h1, h2, h3⟩ := hs κ φ w a F; ⟨κ', φ', w, a, h1, h2, h3, fun _ _ => Steps.refl _ _⟩

theorem WK.skip {m : Nat} {k : List It} {s : SSt} {Q : SSt → Prop} (h : WK P m k s Q) : WK P m (.code .skip :: k) s Q := h.code fun _ _ _ _ _ _ _ => .one step_skip
theorem WK.seq {m : Nat} {x y : Code} {k : List It} {s : SSt} {Q : SSt → Prop} (h : WK P m (.code x :: .code y :: k) s Q) : WK P m (.code (.seq x y) :: k) s Q := h.code fun _ _ _ _ _ _ _ => .one step_seq
theorem WK.block {m id : Nat} {x : Code} {k : List It} {s : SSt} {Q : SSt → Prop} (h : WK P m (.code x :: .blk id :: k) s Q) : WK P m (.code (.block id x) :: k) s Q := h.code fun _ _ _ _ _ _ _ => .one step_block
theorem WK.blk {m id : Nat} {k : List It} {s : SSt} {Q : SSt → Prop} (h : WK P m k s Q) : WK P m (.blk id :: k) s Q := h.code fun _ _ _ _ _ _ _ => .one step_inBlock
theorem WK.enter {m : Nat} {x : Code} {k : List It} {s : SSt} {Q : SSt → Prop} (h : WK P m (.code x :: .lp x :: k) s Q) : WK P m (.code (.loop x) :: k) s Q := h.code fun _ _ _ _ _ _ _ => .one step_loop
theorem WK.scope {m : Nat} {x : Code} {k : List It} {s : SSt} {Q : SSt → Prop} (h : WK P m (.code x :: .scp x :: k) s Q) : WK P m (.code (.scope x) :: k) s Q := h.code fun _ _ _ _ _ _ _ => .one step_scope
theorem WK.scp {m : Nat} {x : Code} {k : List It} {s : SSt} {Q : SSt → Prop} (h : WK P m k s Q) : WK P m (.scp x :: k) s Q := h.code fun _ _ _ _ _ _ _ => .one step_inScope
theorem WK.label {m l : Nat} {k : List It} {s : SSt} {Q : SSt → Prop} (h : WK P m k s Q) : WK P m (.code (.label l) :: k) s Q := h.code fun _ _ _ _ _ _ _ => .one step_label
theorem WK.again {m : Nat} {x : Code} {k : List It} {s : SSt} {Q : SSt → Prop} (h : WK P m (.code x :: .lp x :: k) s Q) : WK P m (.lp x :: k) s Q := h.code fun _ _ _ _ _ _ _ => .one step_inLoop
theorem WK.ret {m : Nat} {k : List It} {s : SSt} {Q : SSt → Prop} (h : Q s) : WK P m (.code .ret :: k) s Q := fun κ φ w a F _ _ =>
  ⟨.ret, a, w, κ, φ, s, .inr rfl, h, F, Fr.refl _ _, KpM.refl _ _ _, _, .one step_ret⟩

def exitT (id : Nat) : List It → Option (List It)
  | [] => none
  | .blk j :: k => bif Nat.beq j id then some k else exitT id k
  | .code _ :: k => exitT id k
  | .lp _ :: k => exitT id k
  | .scp _ :: k => exitT id k

theorem exitT_spec (id : Nat) : ∀ (k k' : List It), exitT id k = some k' → exitTo id (k.map It.item) = some (k'.map It.item)
  | [], k', h => by simp [exitT] at h
  | .blk j :: k, k', h => by
    simp only [exitT] at h
    simp only [List.map_cons, It.item, exitTo]
    cases hb : Nat.beq j id with
    | true => rw [hb] at h; simp at h; subst h; have := nbE hb; subst this; simp
    | false =>
      rw [hb] at h; simp only [cond_false] at h
      have hne : (j == id) = false := by
        cases e : j == id with
        | false => rfl
        | true => have := eq_of_beq e; subst this; rw [nbT rfl] at hb; cases hb
      simp [hne, exitT_spec id k k' h]
  | .code c :: k, k', h => by simp only [exitT] at h; simp [It.item, exitTo, exitT_spec id k k' h]
  | .lp c :: k, k', h => by simp only [exitT] at h; simp [It.item, exitTo, exitT_spec id k k' h]
  | .scp c :: k, k', h => by simp only [exitT] at h; simp [It.item, exitTo, exitT_spec id k k' h]

theorem WK.exit {m id : Nat} {k k' : List It} {s : SSt} {Q : SSt → Prop} (he : exitT id k = some k') (h : WK P m k' s Q) : WK P m (.code (.exit id) :: k) s Q :=
  h.code fun _ _ _ _ _ _ _ => .one (step_exit (exitT_spec id k k' he))

theorem WK.cond {m : Nat} {c : Operand} {x y : Code} {k : List It} {s : SSt} {Q : SSt → Prop} {t : Bool} (hc : rvOf s.R c = .d (.bool t)) (h : WK P m (.code (if t then x else y) :: k) s Q) : WK P m (.code (.cond c x y) :: k) s Q :=
  h.code fun κ φ w a F b cs => by
    have r := rvOf_ok F c
    rw [hc] at r
    generalize hv : a.eval c = v at r
    cases r with
    | d hr => cases hr; exact .one (step_cond hv)

/-- A region that is gone through in its own order. -/
theorem WK.region {m id : Nat} {ops : Array Oper} {k : List It} {s s' : SSt} {Q : SSt → Prop}
    (hr : ∀ κ φ w a, FRel κ φ w s a → wpOps P ops (fun e a' w' => e = .normal ∧ ∃ κ' φ', FRel κ' φ' w' s' a' ∧ Fr κ w κ' w' ∧ KpM m φ s.O φ' s'.O) (List.range ops.size) a w)
    (h : WK P m k s' Q) : WK P m (.code (.region id ops false) :: k) s Q := by
  intro κ φ w a F b cs
  obtain ⟨e, a1, w1, ⟨rfl, κ1, φ1, F1, R1, K1⟩, harr⟩ := wp_region (id := id) (hr κ φ w a F) b (k.map It.item) cs
  obtain ⟨e, a', w', κ', φ', s2, h1, h2, h3, h4, h5, h6⟩ := h κ1 φ1 w1 a1 F1 b cs
  exact ⟨e, a', w', κ', φ', s2, h1, h2, h3, R1.trans h4, K1.trans h5, h6.of_steps harr⟩

theorem WK.regionD {m id : Nat} {ops : Array Oper} {k : List It} {s s' : SSt} {Q : SSt → Prop} (hmix : P.follows .mixedOrders = true)
    (hr : ∀ κ φ w a, FRel κ φ w s a → wpAny P .any ops (fun e a' w' => e = .normal ∧ ∃ κ' φ', FRel κ' φ' w' s' a' ∧ Fr κ w κ' w' ∧ KpM m φ s.O φ' s'.O) ops.size (Array.replicate ops.size false) a w)
    (h : WK P m k s' Q) : WK P m (.code (.region id ops true) :: k) s Q := by
  intro κ φ w a F b cs
  have F' : FRel κ φ { w with drawn := w.drawn + 1 } s a := ⟨F.regs, F.objs, F.bnd, F.n, F.df⟩
  obtain ⟨e, a1, w1, ⟨rfl, κ1, φ1, F1, R1, K1⟩, harr⟩ := wp_region_any (id := id) hmix (hr κ φ { w with drawn := w.drawn + 1 } a F') b (k.map It.item) cs
  obtain ⟨e, a', w', κ', φ', s2, h1, h2, h3, h4, h5, h6⟩ := h κ1 φ1 w1 a1 F1 b cs
  exact ⟨e, a', w', κ', φ', s2, h1, h2, h3, Fr.trans (κ' := κ1) (w' := w1) ⟨R1.size, R1.imm, R1.oth, R1.shp, R1.os, R1.out⟩ h4, K1.trans h5, h6.of_steps harr⟩

/-- A loop: each round's head is one of a family of states; each round goes on to one of less measure, or leaves the loop. -/
theorem WK.loop {m : Nat} {x : Code} {k : List It} {Q : SSt → Prop} {σ : Type} (S : σ → SSt) (inv : σ → Prop) (μ : σ → Nat)
    (round : ∀ y, inv y → (∀ z, inv z → μ z < μ y → WK P m (.lp x :: k) (S z) Q) → WK P m (.code x :: .lp x :: k) (S y) Q) :
    ∀ y, inv y → WK P m (.lp x :: k) (S y) Q := by
  have key : ∀ n y, μ y = n → inv y → WK P m (.lp x :: k) (S y) Q := by
    intro n
    induction n using Nat.strongRecOn with
    | _ n ih => exact fun y hn hy => .again (round y hy fun z hz hlt => ih (μ z) (hn ▸ hlt) z rfl hz)
  exact fun y hy => key _ y rfl hy

end Go.Am
