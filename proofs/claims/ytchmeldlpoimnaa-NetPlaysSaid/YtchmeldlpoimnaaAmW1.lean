/-
  NetTells in plain terms: scripts, what was sent, and what is kept true of both.
-/
import Derived.Test.YtchmeldlpoimnaaAmV5
namespace Go.Proofs.Ytchmeldlpoimnaa
open Go.RowKit Am IntWalk
set_option maxRecDepth 100000
set_option linter.unusedVariables false
set_option linter.unusedSimpArgs false

structure Opx where
  kind : Int
  a : Int
  b : Int
  s : List UInt8
  y : Int
  deriving Inhabited
def oD (x : Opx) : DV := .agg [.int .i64 x.kind, .int .i64 x.a, .int .i64 x.b, .str x.s, .int .u8 x.y]
def toO : DV → Opx
  | .agg [.int _ k, .int _ a, .int _ b, .str s, .int _ y] => ⟨k, a, b, s, y⟩
  | _ => ⟨0, 0, 0, [], 0⟩
def isO : DV → Bool
  | .agg [.int .i64 _, .int .i64 _, .int .i64 _, .str _, .int .u8 _] => true
  | _ => false
theorem isO_spec {x : DV} (h : isO x = true) : x = oD (toO x) := by
  unfold isO at h
  split at h
  · rfl
  · cases h
theorem map_toO {l : List DV} (h : l.all isO = true) : l = (l.map toO).map oD := by
  induction l with
  | nil => rfl
  | cons x r ih =>
    simp only [List.all_cons, Bool.and_eq_true] at h
    simp only [List.map_cons]
    rw [← isO_spec h.1, ← ih h.2]
theorem toO_map (l : List Opx) : (l.map oD).map toO = l := by
  induction l with
  | nil => rfl
  | cons x r ih => simp only [List.map_cons, ih]; rfl
theorem all_isO (l : List Opx) : (l.map oD).all isO = true := by
  simp only [List.all_eq_true, List.mem_map]
  rintro x ⟨c, _, rfl⟩
  rfl
def opAt (l : List Opx) (i : Nat) : Opx := l.getD i ⟨0, 0, 0, [], 0⟩
theorem getD_oD (l : List Opx) (i : Nat) (h : i < l.length) : (l.map oD).getD i .nilp = oD (opAt l i) := by simp [opAt, h]

/-- Heavy scripts. -/
def m16 (s : List UInt8) : Int := if (65536 : Int) < (s.length : Int) then 65536 else (s.length : Int)
def hvG : List Opx → Int → Bool
  | [], _ => false
  | x :: r, n => if 16384 < n + m16 x.s then true else hvG r (n + m16 x.s)
def heavyB (l : List Opx) : Bool := hvG l 0 || decide ((300 : Int) < (l.length : Int))
theorem hvG_le : ∀ {l : List Opx} {n : Int}, 0 ≤ n → hvG l n = false → ∀ x ∈ l, x.s.length ≤ 16384
  | [], _, _, _ => by simp
  | x :: r, n, hn, h => by
    unfold hvG at h
    split at h
    · cases h
    · rename_i hx
      have h1 : x.s.length ≤ 16384 := by unfold m16 at hx; split at hx <;> omega
      have h2 : 0 ≤ m16 x.s := by unfold m16; split <;> omega
      intro z hz
      rcases List.mem_cons.1 hz with rfl | hz
      · exact h1
      · exact hvG_le (by omega) h z hz
theorem heavy_not {l : List Opx} (h : heavyB l = false) : l.length ≤ 300 ∧ ∀ x ∈ l, x.s.length ≤ 16384 := by
  unfold heavyB at h
  simp only [Bool.or_eq_false_iff, decide_eq_false_iff_not] at h
  exact ⟨by omega, hvG_le (Int.le_refl _) h.1⟩

/-- What was sent, by number. -/
def sD (l : Ltr) : DV := lD ⟨0, l.frm, l.dst, l.bs, false⟩
def rowsS (S : List Ltr) : List (DV × DV) := S.map fun l => (.int .i64 l.id, sD l)
theorem lenS (S : List Ltr) : (rowsS S).length = S.length := List.length_map ..
theorem keysS (S : List Ltr) : keysOk ((Env.of Try.prog).und 3) (rowsS S) = true := by
  rw [undI]
  simp only [keysOk, List.all_eq_true]
  intro p hp
  simp only [rowsS, List.mem_map] at hp
  obtain ⟨l, _, rfl⟩ := hp
  rfl
theorem mgetS (id : Int) (z : DV) (S : List Ltr) : mget (.int .i64 id) z (rowsS S) = match fnd id S with | some l => sD l | none => z := by
  induction S with
  | nil => rfl
  | cons l r ih =>
    have e : mget (.int .i64 id) z (rowsS (l :: r)) = bif id == l.id then sD l else mget (.int .i64 id) z (rowsS r) := rfl
    rw [e, ih]
    cases hh : id == l.id <;> simp [fnd, hh]
theorem mhasS (id : Int) (S : List Ltr) : mhas (.int .i64 id) (rowsS S) = (fnd id S).isSome := by
  induction S with
  | nil => rfl
  | cons l r ih =>
    have e : mhas (.int .i64 id) (rowsS (l :: r)) = (id == l.id || mhas (.int .i64 id) (rowsS r)) := rfl
    rw [e, ih]
    cases hh : id == l.id <;> simp [fnd, hh]
theorem mputS (x : Ltr) (S : List Ltr) (h : fnd x.id S = none) : mput (.int .i64 x.id) (sD x) (rowsS S) = rowsS (S ++ [x]) := by
  induction S with
  | nil => rfl
  | cons l r ih =>
    have e : mput (.int .i64 x.id) (sD x) (rowsS (l :: r)) = bif x.id == l.id then (.int .i64 x.id, sD x) :: rowsS r else ((.int .i64 l.id, sD l) :: mput (.int .i64 x.id) (sD x) (rowsS r)) := rfl
    rw [e]
    cases hh : x.id == l.id with
    | true => simp [fnd, hh] at h
    | false =>
      rw [ih (by simpa [fnd, hh] using h)]
      simp [rowsS]
theorem fnd_app {id : Int} {S T : List Ltr} {e : Ltr} (h : fnd id S = some e) : fnd id (S ++ T) = some e := by
  induction S with
  | nil => simp [fnd] at h
  | cons l r ih =>
    simp only [List.cons_append, fnd] at h ⊢
    split at h
    · rename_i q; rw [if_pos q]; exact h
    · rename_i q; rw [if_neg q]; exact ih h
theorem fnd_new {x : Ltr} {S : List Ltr} (h : fnd x.id S = none) : fnd x.id (S ++ [x]) = some x := by
  induction S with
  | nil => simp [fnd]
  | cons l r ih =>
    simp only [List.cons_append, fnd] at h ⊢
    split at h
    · cases h
    · rename_i q; rw [if_neg q]; exact ih h

/-- A letter is what was sent, or but for one byte. -/
structure Of (l e : Ltr) : Prop where
  frm : l.frm = e.frm
  dst : l.dst = e.dst
  same : l.sp = false → l.bs = e.bs
  diff : l.sp = true → ∃ p c, p < e.bs.length ∧ c ≠ e.bs.getD p 0 ∧ l.bs = e.bs.set p c
  small : e.bs.length ≤ 16384
theorem Of.len {l e : Ltr} (h : Of l e) : l.bs.length = e.bs.length := by
  cases q : l.sp with
  | false => rw [h.same q]
  | true => obtain ⟨p, c, _, _, e⟩ := h.diff q; rw [e, List.length_set]
def dif (a b : List UInt8) : Nat → Nat
  | 0 => 0
  | j + 1 => dif a b j + if ((a.getD j 0).toNat : Int) != ((b.getD j 0).toNat : Int) then 1 else 0
theorem dif_le (a b : List UInt8) : ∀ j, dif a b j ≤ j
  | 0 => Nat.le_refl _
  | j + 1 => by have := dif_le a b j; unfold dif; split <;> omega
theorem dif_same (a : List UInt8) : ∀ j, dif a a j = 0
  | 0 => rfl
  | j + 1 => by unfold dif; rw [dif_same a j]; simp
theorem u8_ne {a b : UInt8} (h : a ≠ b) : ((a.toNat : Int) != (b.toNat : Int)) = true := by
  simp only [bne_iff_ne, ne_eq]
  intro e
  exact h (UInt8.toNat_inj.1 (by omega))
theorem dif_set (b : List UInt8) (p : Nat) (c : UInt8) (hp : p < b.length) (hc : c ≠ b.getD p 0) : ∀ j, dif (b.set p c) b j = if p < j then 1 else 0
  | 0 => by simp [dif]
  | j + 1 => by
    unfold dif
    rw [dif_set b p c hp hc j]
    by_cases e : p = j
    · subst e
      have : (b.set p c).getD p 0 = c := by simp [hp]
      rw [this, u8_ne hc]; simp
    · have : (b.set p c).getD j 0 = b.getD j 0 := by simp [List.getD_eq_getElem?_getD, List.getElem?_set, e]
      rw [this]
      simp only [bne_self_eq_false, Bool.false_eq_true, if_false]
      by_cases q : p < j
      · rw [if_pos q, if_pos (by omega)]
      · rw [if_neg q, if_neg (by omega)]
theorem Of.dif {l e : Ltr} (h : Of l e) : dif l.bs e.bs l.bs.length = if l.sp then 1 else 0 := by
  cases q : l.sp with
  | false => rw [h.same q, dif_same]; rfl
  | true =>
    obtain ⟨p, c, h1, h2, h3⟩ := h.diff q
    rw [h3, List.length_set, dif_set _ _ _ h1 h2, if_pos h1]; rfl

/-- What is kept true behind i calls. -/
structure Tls (L : List Ltr) (last : Int) (S : List Ltr) (came : Nat) (i : Nat) : Prop where
  net : NetOk L last
  li : last ≤ i
  keys : ∀ e ∈ S, e.id ≤ last
  of : ∀ l ∈ L, ∃ e, fnd l.id S = some e ∧ Of l e
  num : came + L.length = S.length
  few : S.length ≤ i
theorem Tls.zero : Tls [] 0 [] 0 0 := ⟨NetOk.zero, by omega, by simp, by simp, rfl, by simp⟩
theorem Tls.next {L : List Ltr} {last : Int} {S : List Ltr} {came i : Nat} (h : Tls L last S came i) : Tls L last S came (i + 1) :=
  ⟨h.net, by have := h.li; omega, h.keys, h.of, h.num, by have := h.few; omega⟩
theorem Tls.new {L : List Ltr} {last : Int} {S : List Ltr} {came i : Nat} (h : Tls L last S came i) : fnd (last + 1) S = none := fnd_none fun l m => by have := h.keys l m; omega
theorem Tls.add {L : List Ltr} {last : Int} {S : List Ltr} {came i : Nat} (h : Tls L last S came i) (hi : i ≤ 300) (hl : L.length < 64) {x e : Ltr} (hx : x.id = last + 1) (he : e.id = last + 1) (ho : Of x e) : Tls (L ++ [x]) (last + 1) (S ++ [e]) came (i + 1) where
  net := h.net.add hl (by have := h.li; omega) hx
  li := by have := h.li; omega
  keys := fun z m => by rcases List.mem_append.1 m with m | m; (have := h.keys z m; omega); (simp at m; subst m; omega)
  of := fun z m => by
    rcases List.mem_append.1 m with m | m
    · obtain ⟨q, h1, h2⟩ := h.of z m
      exact ⟨q, fnd_app h1, h2⟩
    · simp at m; subst m
      exact ⟨e, by rw [hx, ← he]; exact fnd_new (by rw [he]; exact h.new), ho⟩
  num := by have := h.num; simp; omega
  few := by have := h.few; simp; omega
theorem Tls.del {L : List Ltr} {last : Int} {S : List Ltr} {came i : Nat} (h : Tls L last S came i) {id : Int} {l : Ltr} (hf : fnd id L = some l) : Tls (del id L) last S (came + 1) (i + 1) where
  net := h.net.del id
  li := by have := h.li; omega
  keys := h.keys
  of := fun z m => h.of z (del_sub m)
  num := by have := h.num; have := del_len (id := id) (L := L) (by simp [hf]); omega
  few := by have := h.few; omega
theorem Tls.rep {L : List Ltr} {last : Int} {S : List Ltr} {came i : Nat} (h : Tls L last S came i) {id : Int} {l y : Ltr} (hf : fnd id L = some l) (hy : y.id = l.id) (ho : ∀ e, Of l e → Of y e) : Tls (rep y L) last S came (i + 1) where
  net := h.net.rep y
  li := by have := h.li; omega
  keys := h.keys
  of := fun z m => by
    rcases rep_sub m with m | ⟨rfl, _⟩
    · exact h.of z m
    · obtain ⟨q, h1, h2⟩ := h.of l (fnd_some hf).1
      exact ⟨q, by rw [hy]; exact h1, ho q h2⟩
  num := by have := h.num; rw [rep_len]; exact this
  few := by have := h.few; omega

theorem xor_ne {n y : Nat} (hn : n < 256) (hy : 0 < y) (hy2 : y < 256) : bits .xor .u8 (n : Int) (y : Int) ≠ (n : Int) ∧ 0 ≤ bits .xor .u8 (n : Int) (y : Int) ∧ bits .xor .u8 (n : Int) (y : Int) < 256 := by
  have e : bits .xor .u8 (n : Int) (y : Int) = ((n ^^^ y : Nat) : Int) := by
    show IntKind.u8.wrap (((BitVec.ofInt 8 (n : Int)) ^^^ (BitVec.ofInt 8 (y : Int))).toNat : Int) = _
    have e : ((BitVec.ofInt 8 (n : Int)) ^^^ (BitVec.ofInt 8 (y : Int))).toNat = n ^^^ y := by
      rw [BitVec.toNat_xor, BitVec.toNat_ofInt, BitVec.toNat_ofInt]
      have e1 : (((n : Nat) : Int) % ((2 ^ 8 : Nat) : Int)).toNat = n := by omega
      have e2 : (((y : Nat) : Int) % ((2 ^ 8 : Nat) : Int)).toNat = y := by omega
      rw [e1, e2]
    rw [e]
    have : n ^^^ y < 2 ^ 8 := Nat.xor_lt_two_pow (by omega) (by omega)
    show ((n ^^^ y : Nat) : Int) % 256 = _
    omega
  rw [e]
  have h2 : n ^^^ y < 2 ^ 8 := Nat.xor_lt_two_pow (by omega) (by omega)
  refine ⟨fun q => ?_, by omega, by omega⟩
  have q' : n ^^^ y = n := by omega
  have : y = 0 := by
    have h3 : n ^^^ (n ^^^ y) = n ^^^ n := by rw [q']
    rw [← Nat.xor_assoc, Nat.xor_self, Nat.zero_xor] at h3
    exact h3
  omega
theorem xorB_ne {s : List UInt8} {i : Nat} {y : Int} (h0 : 0 < y) (h1 : y < 256) : xorB s i y ≠ s.getD i 0 := by
  obtain ⟨m, rfl⟩ := Int.eq_ofNat_of_zero_le (by omega : 0 ≤ y)
  have hb := (s.getD i 0).toNat_lt
  obtain ⟨q1, q2, q3⟩ := xor_ne (n := (s.getD i 0).toNat) (y := m) (by omega) (by omega) (by omega)
  unfold xorB
  intro e
  have e2 := congrArg UInt8.toNat e
  simp only [DV.byte, UInt8.toNat_ofNat'] at e2
  apply q1
  show bits .xor .u8 (((s.getD i 0).toNat : Nat) : Int) ((m : Nat) : Int) = _
  generalize bits .xor .u8 (((s.getD i 0).toNat : Nat) : Int) ((m : Nat) : Int) = z at *
  omega
theorem Of.spoil {l e : Ltr} (h : Of l e) {a y : Int} (hy : 0 ≤ y ∧ y < 256) (he : spoilE l a y = 0) : Of (spoilL l a y) e := by
  unfold spoilE at he
  cases q : l.sp with
  | true => rw [q, if_pos rfl] at he; cases he
  | false =>
    rw [q, if_neg (by decide)] at he
    split at he
    · cases he
    · rename_i ha
      split at he
      · cases he
      · rename_i hy0
        refine ⟨h.frm, h.dst, fun k => by simp [spoilL] at k, fun _ => ?_, h.small⟩
        have hb := h.same q
        refine ⟨a.toNat, xorB l.bs a.toNat y, by rw [← hb]; omega, by rw [← hb]; exact xorB_ne (by omega) hy.2, by rw [← hb]; rfl⟩
end Go.Proofs.Ytchmeldlpoimnaa
