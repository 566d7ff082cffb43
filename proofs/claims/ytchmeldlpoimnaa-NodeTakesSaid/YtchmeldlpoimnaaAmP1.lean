/-
  What is taken of bytes: the parse, and that it takes back what was put.
-/
import Derived.Test.YtchmeldlpoimnaaAmR6
namespace Go.Proofs.Ytchmeldlpoimnaa
open Go.RowKit Am IntWalk
set_option maxRecDepth 100000
set_option linter.unusedSimpArgs false

abbrev Qr := Bs × Bool
def txt (n : Int) (q : Qr) : Bs × Qr := if (q.1.length : Int) < n then ([], (q.1, false)) else (q.1.take n.toNat, (q.1.drop n.toNat, q.2))
def valB (l : Bs) : Int := l.foldl (fun n b => 256 * n + (b.toNat : Int)) 0
def numT (m : Int) (q : Qr) : Int × Qr := (valB (txt m q).1, (txt m q).2)
def cellQ (k : Int) (q : Qr) : Cel × Qr :=
  let a := numT 1 q
  let b := txt a.1 a.2
  if k == 1 then
    let c := numT 2 b.2
    let d := txt (if 100 < c.1 then 100 else c.1) c.2
    if decide (100 < c.1) then (⟨b.1, c.1, d.1, (numT 4 d.2).1⟩, (numT 4 d.2).2) else (⟨b.1, c.1, d.1, 0⟩, d.2)
  else (⟨b.1, 0, [], (numT 4 b.2).1⟩, (numT 4 b.2).2)
def cellsQ (k : Int) : Nat → Qr → List Cel
  | 0, _ => []
  | m + 1, q => if q.2 then (cellQ k q).1 :: cellsQ k m (cellQ k q).2 else []
def pk (s : Bs) : Int := IntKind.u8.wrap (numT 1 (s, true)).1
def pmany (s : Bs) : Int := (numT 2 (numT 1 (s, true)).2).1
def pq2 (s : Bs) : Qr := (numT 2 (numT 1 (s, true)).2).2
def pfirst (s : Bs) : Int := if pk s != 1 then (numT 4 (pq2 s)).1 else 0
def pq (s : Bs) : Qr := if pk s != 1 then (numT 4 (pq2 s)).2 else pq2 s
def parseN (s : Bs) : Nod :=
  ⟨pk s, pfirst s, if pk s == 1 || pk s == 2 then cellsQ (pk s) (pmany s).toNat (pq s) else [], if pk s == 3 then (txt (pmany s) (pq s)).1 else []⟩

theorem valB_1 (a : UInt8) : valB [a] = a.toNat := by simp [valB]
theorem valB_2 (a b : UInt8) : valB [a, b] = 256 * (a.toNat : Int) + b.toNat := by simp [valB]
theorem valB_4 (a b c d : UInt8) : valB [a, b, c, d] = 256 * (256 * (256 * (a.toNat : Int) + b.toNat) + c.toNat) + d.toNat := by simp [valB]
theorem valB_nn : ∀ (l : Bs) (n : Int), 0 ≤ n → 0 ≤ l.foldl (fun n b => 256 * n + (b.toNat : Int)) n
  | [], n, h => h
  | b :: r, n, h => valB_nn r (256 * n + (b.toNat : Int)) (by omega)
theorem bY_val {x : Int} (h0 : 0 ≤ x) : ((bY x).toNat : Int) = x % 256 := by
  obtain ⟨m, rfl⟩ := Int.eq_ofNat_of_zero_le h0
  have e : IntKind.u8.wrap (m : Int) = ((m % 256 : Nat) : Int) := by
    show (m : Int) % 256 = _
    omega
  simp only [bY, DV.byte, e]
  simp
  omega
theorem txt_app (a r : Bs) (b : Bool) {n : Int} (h : n = a.length) : txt n (a ++ r, b) = (a, (r, b)) := by
  subst h
  unfold txt
  simp only [List.length_append]
  rw [if_neg (by omega), Int.toNat_natCast, List.take_left, List.drop_left]
theorem num_1 {x : Int} (r : Bs) (b : Bool) (h0 : 0 ≤ x) (h1 : x < 256) : numT 1 ([bY x] ++ r, b) = (x, (r, b)) := by
  unfold numT
  rw [txt_app _ _ _ (by simp)]
  simp only [valB_1, bY_val h0]
  congr 1; omega
theorem num_2 {x : Int} (r : Bs) (b : Bool) (h0 : 0 ≤ x) (h1 : x < 65536) : numT 2 (num2 x ++ r, b) = (x, (r, b)) := by
  unfold numT
  rw [txt_app _ _ _ (by simp [num2])]
  simp only [num2, valB_2, fdiv_one, fdiv_ed x 256 (by decide)]
  rw [bY_val (by omega), bY_val (by omega)]
  congr 1; omega
theorem num_4 {x : Int} (r : Bs) (b : Bool) (h0 : 0 ≤ x) (h1 : x < 65536) : numT 4 (num4 x ++ r, b) = (x, (r, b)) := by
  unfold numT
  rw [txt_app _ _ _ (by simp [num4])]
  simp only [num4, valB_4, fdiv_one, fdiv_ed x 256 (by decide), fdiv_ed x 65536 (by decide), fdiv_ed x 16777216 (by decide)]
  rw [bY_val (by omega), bY_val (by omega), bY_val (by omega), bY_val (by omega)]
  congr 1; omega
theorem cell_back {k : Int} {c : Cel} (hk : k = 1 ∨ k = 2) (h : cellB k c = true) (r : Bs) : cellQ k (cellBs k c ++ r, true) = (c, (r, true)) := by
  rcases hk with rfl | rfl
  · obtain ⟨h1, h2, h3, h4, h5, h6, h7⟩ := leaf_in h
    have hloc : (c.loc.length : Int) = (if 100 < c.size then 100 else c.size) := by
      by_cases q : 100 < c.size
      · simp [cellB, pageB, q] at h; simp [q]; omega
      · simp [cellB, pageB, q] at h; simp [q]; omega
    unfold cellQ
    simp only [cellBs, h7, beq_self_eq_true, if_true, List.append_assoc]
    rw [num_1 _ _ (by omega) (by omega)]
    simp only
    rw [txt_app _ _ _ rfl]
    simp only
    rw [num_2 _ _ h3 (by omega)]
    simp only
    rw [txt_app _ _ _ hloc.symm]
    simp only
    by_cases q : 100 < c.size
    · simp only [q, decide_true, if_true]
      rw [num_4 _ _ h5 (by omega)]
    · simp only [q, decide_false, if_false, Bool.false_eq_true, List.nil_append]
      have : c.page = 0 := by simp [q] at h7; omega
      rw [← this]
  · obtain ⟨h1, h2, h3, h4⟩ := inner_in h
    have hs : c.size = 0 ∧ c.loc = [] := by simp [cellB, pageB] at h; exact ⟨h.2.1.1, h.2.1.2⟩
    unfold cellQ
    have e : ((2 : Int) == 1) = false := rfl
    simp only [cellBs, h4, e, if_true, Bool.false_eq_true, if_false, List.append_assoc, List.nil_append]
    rw [num_1 _ _ (by omega) (by omega)]
    simp only
    rw [txt_app _ _ _ rfl]
    simp only
    rw [num_4 _ _ h2 (by omega)]
    rw [← hs.1, ← hs.2]
theorem cells_back {k : Int} (hk : k = 1 ∨ k = 2) : ∀ (l : List Cel) (r : Bs), (∀ c ∈ l, cellB k c = true) → cellsQ k l.length (l.flatMap (cellBs k) ++ r, true) = l
  | [], _, _ => rfl
  | c :: l, r, h => by
    simp only [List.length_cons, cellsQ, if_true, List.flatMap_cons, List.append_assoc]
    rw [cell_back hk (h c (by simp))]
    simp only
    rw [cells_back hk l r (fun x hx => h x (by simp [hx]))]
theorem put_len {n : Nod} (h : putE n = 0) : mayB n = true ∧ (byAll n).length ≤ 512 ∧ putS n = byAll n ++ zer (512 - (byAll n).length) := by
  unfold putE at h
  split at h
  · rename_i hm
    split at h
    · rename_i hl; exact ⟨hm, hl, by simp [putS, hm, hl]⟩
    · cases h
  · cases h
theorem put_512 {n : Nod} (h : putE n = 0) : (putS n).length = 512 := by
  obtain ⟨_, h2, h3⟩ := put_len h
  rw [h3]; simp [zer]; omega
theorem flat_ge {k : Int} : ∀ (l : List Cel), l.length ≤ (l.flatMap (cellBs k)).length
  | [] => by simp
  | c :: l => by
    have := flat_ge (k := k) l
    have h2 := cellBs_len k c
    simp only [List.flatMap_cons, List.length_append, List.length_cons]
    omega
theorem wrap_u8 {x : Int} (h0 : 0 ≤ x) (h1 : x < 256) : IntKind.u8.wrap x = x := Int.emod_eq_of_lt h0 h1
theorem parse_back {n : Nod} (h : putE n = 0) : parseN (putS n) = n := by
  obtain ⟨hm, hl, hs⟩ := put_len h
  have hfi := may_first hm
  have hcl := may_cell hm
  rw [all_len] at hl
  have hge := flat_ge (k := n.kind) n.cells
  generalize hz : zer (512 - (byAll n).length) = z at hs
  have hkr : 0 ≤ n.kind ∧ n.kind < 256 := by rcases may_kind hm with ⟨e, _⟩ | ⟨e, _⟩ | ⟨e, _⟩ | ⟨e, _⟩ <;> omega
  have hmx : 0 ≤ maxD n ∧ maxD n < 65536 := by
    unfold maxD; rw [List.length_map]; split <;> omega
  have e1 : numT 1 (putS n, true) = (n.kind, (num2 (maxD n) ++ ((if n.kind == 1 then [] else num4 n.first) ++ (n.cells.flatMap (cellBs n.kind) ++ (n.data ++ z))), true)) := by
    rw [hs]
    simp only [byAll, byU, headBs, List.take_length, List.append_assoc]
    rw [← bY_kY hkr.1 hkr.2, num_1 _ _ hkr.1 hkr.2]
  have e2 : numT 2 (numT 1 (putS n, true)).2 = (maxD n, ((if n.kind == 1 then [] else num4 n.first) ++ (n.cells.flatMap (cellBs n.kind) ++ (n.data ++ z)), true)) := by
    rw [e1]; exact num_2 _ _ hmx.1 hmx.2
  have ek : pk (putS n) = n.kind := by unfold pk; rw [e1]; exact wrap_u8 hkr.1 hkr.2
  have em : pmany (putS n) = maxD n := by unfold pmany; rw [e2]
  have eq2 : pq2 (putS n) = ((if n.kind == 1 then [] else num4 n.first) ++ (n.cells.flatMap (cellBs n.kind) ++ (n.data ++ z)), true) := by unfold pq2; rw [e2]
  have e3 : pfirst (putS n) = n.first ∧ pq (putS n) = (n.cells.flatMap (cellBs n.kind) ++ (n.data ++ z), true) := by
    unfold pfirst pq
    rw [ek, eq2]
    by_cases q : n.kind = 1
    · have h0 : n.first = 0 := by
        simp only [mayB, Bool.and_eq_true] at hm
        have := hm.1
        simp [headB, q] at this
        exact this.1
      simp [q, h0]
    · have q2 : (n.kind == 1) = false := by simpa using q
      simp only [bne, q2, Bool.not_false, if_true, Bool.false_eq_true, if_false]
      rw [num_4 _ _ hfi.1 (by omega)]
      exact ⟨rfl, rfl⟩
  unfold parseN
  rw [ek, em, e3.1, e3.2]
  rcases may_kind hm with ⟨e, hd⟩ | ⟨e, hd, _⟩ | ⟨e, hc, hd⟩ | ⟨e, hc, hd⟩
  · have hmd : (maxD n).toNat = n.cells.length := by unfold maxD; rw [hd, List.length_map]; simp; split <;> omega
    have hb := cells_back (k := n.kind) (.inl e) n.cells (n.data ++ z) (hcl (.inl e))
    have q1 : (n.kind == 1 || n.kind == 2) = true := by simp [e]
    have q2 : (n.kind == 3) = false := by simp [e]
    rw [hmd, hb, q1, q2, if_pos rfl, if_neg (by decide), ← hd]
  · have hmd : (maxD n).toNat = n.cells.length := by unfold maxD; rw [hd, List.length_map]; simp; split <;> omega
    have hb := cells_back (k := n.kind) (.inr e) n.cells (n.data ++ z) (hcl (.inr e))
    have q1 : (n.kind == 1 || n.kind == 2) = true := by simp [e]
    have q2 : (n.kind == 3) = false := by simp [e]
    rw [hmd, hb, q1, q2, if_pos rfl, if_neg (by decide), ← hd]
  · have hmd : maxD n = n.data.length := by unfold maxD; rw [hc, List.length_map]; simp only [List.length_nil]; split <;> omega
    have q1 : (n.kind == 1 || n.kind == 2) = false := by simp [e]
    have q2 : (n.kind == 3) = true := by simp [e]
    rw [hc, List.flatMap_nil, List.nil_append, txt_app _ _ _ hmd, q1, q2, if_neg (by decide), if_pos rfl, ← hc]
  · have q1 : (n.kind == 1 || n.kind == 2) = false := by simp [e]
    have q2 : (n.kind == 3) = false := by simp [e]
    rw [q1, q2, if_neg (by decide), if_neg (by decide), ← hc, ← hd]

/-- A page as taken: whichever parse is used, so long as it takes back what was put. -/
def takeBy (p : Bs → Nod) (s : Bs) : Nod × Int := if putE (p s) = 0 ∧ putS (p s) = s then (p s, 0) else (⟨0, 0, [], []⟩, 7)
theorem take_same {p q : Bs → Nod} (hp : ∀ n, putE n = 0 → p (putS n) = n) (hq : ∀ n, putE n = 0 → q (putS n) = n) (s : Bs) : takeBy p s = takeBy q s := by
  unfold takeBy
  by_cases h : putE (p s) = 0 ∧ putS (p s) = s
  · have e : q s = p s := by have := hq (p s) h.1; rw [h.2] at this; exact this
    rw [if_pos h, e, if_pos h]
  · rw [if_neg h]
    by_cases h' : putE (q s) = 0 ∧ putS (q s) = s
    · have e : p s = q s := by have := hp (q s) h'.1; rw [h'.2] at this; exact this
      rw [e] at h; exact absurd h' h
    · rw [if_neg h']
theorem take_put {p : Bs → Nod} (hp : ∀ n, putE n = 0 → p (putS n) = n) {n : Nod} (h : putE n = 0) : takeBy p (putS n) = (n, 0) := by
  unfold takeBy
  rw [hp n h, if_pos ⟨h, rfl⟩]
end Go.Proofs.Ytchmeldlpoimnaa
