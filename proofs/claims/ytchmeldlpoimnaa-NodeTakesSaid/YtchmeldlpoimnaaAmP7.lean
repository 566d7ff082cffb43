/-
  What the reference takes of bytes, by places: and that it takes back what was put.
-/
import Derived.Test.YtchmeldlpoimnaaAmP1
namespace Go.Proofs.Ytchmeldlpoimnaa
open Go.RowKit Am IntWalk
set_option maxRecDepth 100000
set_option linter.unusedSimpArgs false

def byR (s : Bs) (i : Nat) : Int := if i < s.length then ((s.getD i 0).toNat : Int) else 0
def valR (s : Bs) (a : Nat) : Nat → Int
  | 0 => 0
  | m + 1 => 256 * valR s a m + byR s (a + m)
def partR (s : Bs) (a : Nat) (m : Int) : Bs := (s.drop a).take m.toNat
def cellR (k : Int) (s : Bs) (a : Nat) : Cel × Nat :=
  let key := partR s (a + 1) (valR s a 1)
  let a1 := a + 1 + (valR s a 1).toNat
  if k == 1 then
    let sz := valR s a1 2
    let loc := partR s (a1 + 2) (if 100 < sz then 100 else sz)
    let a2 := a1 + 2 + loc.length
    if decide (100 < sz) then (⟨key, sz, loc, valR s a2 4⟩, a2 + 4) else (⟨key, sz, loc, 0⟩, a2)
  else if k == 2 then (⟨key, 0, [], valR s a1 4⟩, a1 + 4) else (⟨key, 0, [], 0⟩, a1)
def cellsR (k : Int) (s : Bs) : Nat → Nat → List Cel
  | 0, _ => []
  | m + 1, a => if a < s.length then (cellR k s a).1 :: cellsR k s m (cellR k s a).2 else []
def rk (s : Bs) : Int := IntKind.u8.wrap (valR s 0 1)
def parseR (s : Bs) : Nod :=
  ⟨rk s, if rk s != 1 then valR s 3 4 else 0, if decide (rk s < 3) then cellsR (rk s) s (valR s 1 2).toNat (if rk s != 1 then 7 else 3) else [], if rk s == 3 then partR s (if rk s != 1 then 7 else 3) (valR s 1 2) else []⟩

theorem valB_snoc (l : Bs) (b : UInt8) : valB (l ++ [b]) = 256 * valB l + (b.toNat : Int) := by simp [valB]
theorem val_at {s pre l r : Bs} {a m : Nat} {x : Int} (h : s = pre ++ (l ++ r)) (ha : a = pre.length) (hm : m = l.length) (hx : valB l = x) : valR s a m = x := by
  subst hx
  subst h ha hm
  have : ∀ m, m ≤ l.length → valR (pre ++ (l ++ r)) pre.length m = valB (l.take m) := by
    intro m
    induction m with
    | zero => intro _; simp [valR, valB]
    | succ m ih =>
      intro h
      rw [valR, ih (by omega), List.take_add_one, List.getElem?_eq_getElem (by omega), Option.toList_some, valB_snoc]
      congr 2
      unfold byR
      rw [if_pos (by simp; omega), List.getD_eq_getElem?_getD, List.getElem?_append_right (by omega), List.getElem?_append_left (by omega)]
      simp [show pre.length + m - pre.length = m by omega, List.getElem?_eq_getElem (show m < l.length by omega)]
  rw [this _ (Nat.le_refl _), List.take_length]
theorem part_at {s pre l r : Bs} {a : Nat} {m : Int} (h : s = pre ++ (l ++ r)) (ha : a = pre.length) (hm : m = l.length) : partR s a m = l := by
  subst h ha hm
  unfold partR
  rw [List.drop_left, Int.toNat_natCast, List.take_left]
theorem valB_n1 {x : Int} (h0 : 0 ≤ x) (h1 : x < 256) : valB [bY x] = x := by
  have := num_1 (x := x) [] true h0 h1
  unfold numT at this; rw [txt_app _ _ _ (by simp)] at this
  exact congrArg Prod.fst this
theorem valB_n2 {x : Int} (h0 : 0 ≤ x) (h1 : x < 65536) : valB (num2 x) = x := by
  have := num_2 (x := x) [] true h0 h1
  unfold numT at this; rw [txt_app _ _ _ (by simp [num2])] at this
  exact congrArg Prod.fst this
theorem valB_n4 {x : Int} (h0 : 0 ≤ x) (h1 : x < 65536) : valB (num4 x) = x := by
  have := num_4 (x := x) [] true h0 h1
  unfold numT at this; rw [txt_app _ _ _ (by simp [num4])] at this
  exact congrArg Prod.fst this
theorem cellR_back {k : Int} {c : Cel} (hk : k = 1 ∨ k = 2) (h : cellB k c = true) (pre r : Bs) : cellR k (pre ++ (cellBs k c ++ r)) pre.length = (c, (pre ++ cellBs k c).length) := by
  generalize hs : pre ++ (cellBs k c ++ r) = s
  rcases hk with rfl | rfl
  · obtain ⟨h1, h2, h3, h4, h5, h6, h7⟩ := leaf_in h
    have hloc : (c.loc.length : Int) = (if 100 < c.size then 100 else c.size) := by
      by_cases q : 100 < c.size
      · simp [cellB, pageB, q] at h; simp [q]; omega
      · simp [cellB, pageB, q] at h; simp [q]; omega
    simp only [cellBs, h7, beq_self_eq_true, if_true, List.append_assoc] at hs
    generalize ht : (if decide (100 < c.size) = true then num4 c.page else []) ++ r = t at hs
    have e1 : valR s pre.length 1 = c.key.length := by
      exact val_at (pre := pre) (l := [bY c.key.length]) (r := c.key ++ (num2 c.size ++ (c.loc ++ t))) (by rw [← hs]) rfl rfl (valB_n1 (by omega) (by omega))
    have e2 : partR s (pre.length + 1) c.key.length = c.key := part_at (pre := pre ++ [bY c.key.length]) (r := num2 c.size ++ (c.loc ++ t)) (by rw [← hs]; simp) (by simp) rfl
    have e3 : valR s (pre.length + 1 + c.key.length) 2 = c.size := by
      exact val_at (pre := pre ++ [bY c.key.length] ++ c.key) (l := num2 c.size) (r := c.loc ++ t) (by rw [← hs]; simp) (by simp; omega) rfl (valB_n2 h3 (by omega))
    have e4 : partR s (pre.length + 1 + c.key.length + 2) (if 100 < c.size then 100 else c.size) = c.loc :=
      part_at (pre := pre ++ [bY c.key.length] ++ c.key ++ num2 c.size) (r := t) (by rw [← hs]; simp) (by simp [num2]; omega) hloc.symm
    unfold cellR
    simp only [beq_self_eq_true, if_true, e1, Int.toNat_natCast, e2, e3, e4]
    by_cases q : 100 < c.size
    · have e5 : valR s (pre.length + 1 + c.key.length + 2 + c.loc.length) 4 = c.page := by
        exact val_at (pre := pre ++ [bY c.key.length] ++ c.key ++ num2 c.size ++ c.loc) (l := num4 c.page) (r := r) (by rw [← hs, ← ht]; simp [q]) (by simp [num2]; omega) rfl (valB_n4 h5 (by omega))
      simp only [q, decide_true, if_true, e5]
      refine Prod.ext rfl ?_
      simp only [List.length_append, cellBs_len]
      simp [h7, q]; omega
    · have : c.page = 0 := by simp [q] at h7; omega
      simp only [q, decide_false, if_false, Bool.false_eq_true]
      refine Prod.ext (by rw [← this]) ?_
      simp only [List.length_append, cellBs_len]
      simp [h7, q]; omega
  · obtain ⟨h1, h2, h3, h4⟩ := inner_in h
    have hsz : c.size = 0 ∧ c.loc = [] := by simp [cellB, pageB] at h; exact ⟨h.2.1.1, h.2.1.2⟩
    have e : ((2 : Int) == 1) = false := rfl
    simp only [cellBs, h4, e, if_true, Bool.false_eq_true, if_false, List.append_assoc, List.nil_append] at hs
    have e1 : valR s pre.length 1 = c.key.length := by
      exact val_at (pre := pre) (l := [bY c.key.length]) (r := c.key ++ (num4 c.page ++ r)) (by rw [← hs]) rfl rfl (valB_n1 (by omega) (by omega))
    have e2 : partR s (pre.length + 1) c.key.length = c.key := part_at (pre := pre ++ [bY c.key.length]) (r := num4 c.page ++ r) (by rw [← hs]; simp) (by simp) rfl
    have e3 : valR s (pre.length + 1 + c.key.length) 4 = c.page := by
      exact val_at (pre := pre ++ [bY c.key.length] ++ c.key) (l := num4 c.page) (r := r) (by rw [← hs]; simp) (by simp; omega) rfl (valB_n4 h2 (by omega))
    unfold cellR
    simp only [e, beq_self_eq_true, if_true, Bool.false_eq_true, if_false, e1, Int.toNat_natCast, e2, e3]
    refine Prod.ext (by rw [← hsz.1, ← hsz.2]) ?_
    simp only [List.length_append, cellBs_len]
    simp [h4, e]; omega
theorem cellsR_back {k : Int} (hk : k = 1 ∨ k = 2) : ∀ (l : List Cel) (pre z : Bs), (∀ c ∈ l, cellB k c = true) → cellsR k (pre ++ (l.flatMap (cellBs k) ++ z)) l.length pre.length = l
  | [], _, _, _ => rfl
  | c :: l, pre, z, h => by
    simp only [List.length_cons, cellsR, List.flatMap_cons, List.append_assoc]
    have hl := cellBs_len k c
    rw [if_pos (by simp only [List.length_append]; omega), cellR_back hk (h c (by simp))]
    simp only
    have := cellsR_back hk l (pre ++ cellBs k c) z (fun x hx => h x (by simp [hx]))
    simp only [List.append_assoc] at this
    rw [this]
theorem parseR_back {n : Nod} (h : putE n = 0) : parseR (putS n) = n := by
  obtain ⟨hm, hl, hs⟩ := put_len h
  have hfi := may_first hm
  have hcl := may_cell hm
  rw [all_len] at hl
  have hge := flat_ge (k := n.kind) n.cells
  generalize hz : zer (512 - (byAll n).length) = z at hs
  have hkr : 0 ≤ n.kind ∧ n.kind < 256 := by rcases may_kind hm with ⟨e, _⟩ | ⟨e, _⟩ | ⟨e, _⟩ | ⟨e, _⟩ <;> omega
  have hmx : 0 ≤ maxD n ∧ maxD n < 65536 := by
    unfold maxD; rw [List.length_map]; split <;> omega
  have hS : putS n = [bY n.kind] ++ (num2 (maxD n) ++ ((if n.kind == 1 then [] else num4 n.first) ++ (n.cells.flatMap (cellBs n.kind) ++ (n.data ++ z)))) := by
    rw [hs, bY_kY hkr.1 hkr.2]
    simp only [byAll, byU, headBs, List.take_length, List.append_assoc]
  have e1 : valR (putS n) 0 1 = n.kind := by
    exact val_at (pre := []) (l := [bY n.kind]) hS rfl rfl (valB_n1 hkr.1 hkr.2)
  have e2 : valR (putS n) 1 2 = maxD n := by
    exact val_at (pre := [bY n.kind]) (l := num2 (maxD n)) hS rfl rfl (valB_n2 hmx.1 hmx.2)
  have ek : rk (putS n) = n.kind := by unfold rk; rw [e1]; exact wrap_u8 hkr.1 hkr.2
  have e3 : n.kind ≠ 1 → valR (putS n) 3 4 = n.first := fun q => by
    have q2 : (n.kind == 1) = false := by simpa using q
    rw [q2, if_neg (by decide)] at hS
    exact val_at (pre := [bY n.kind] ++ num2 (maxD n)) (l := num4 n.first) (by rw [hS]; simp; rfl) rfl rfl (valB_n4 hfi.1 (by omega))
  have e4 : n.kind ≠ 1 → putS n = ([bY n.kind] ++ num2 (maxD n) ++ num4 n.first) ++ (n.cells.flatMap (cellBs n.kind) ++ (n.data ++ z)) := fun q => by
    have q2 : (n.kind == 1) = false := by simpa using q
    rw [q2, if_neg (by decide)] at hS
    rw [hS]; simp
  unfold parseR
  rw [ek, e2]
  rcases may_kind hm with ⟨e, hd⟩ | ⟨e, hd, _⟩ | ⟨e, hc, hd⟩ | ⟨e, hc, hd⟩
  · have hmd : (maxD n).toNat = n.cells.length := by unfold maxD; rw [hd, List.length_map]; simp; split <;> omega
    have hb := cellsR_back (k := n.kind) (.inl e) n.cells ([bY n.kind] ++ num2 (maxD n)) (n.data ++ z) (hcl (.inl e))
    have h0 : n.first = 0 := by
      simp only [mayB, Bool.and_eq_true] at hm
      have := hm.1
      simp [headB, e] at this
      exact this.1
    have e5 : putS n = ([bY n.kind] ++ num2 (maxD n)) ++ (n.cells.flatMap (cellBs n.kind) ++ (n.data ++ z)) := by
      rw [hS]; simp [e]
    rw [← e5, show ([bY n.kind] ++ num2 (maxD n)).length = 3 from rfl] at hb
    have q1 : (n.kind != 1) = false := by simp [e]
    have q2 : (n.kind == 3) = false := by simp [e]
    have q3 : decide (n.kind < 3) = true := by simp [e]
    rw [hmd, q1, q2, q3, if_pos rfl, if_neg (by decide), if_neg (by decide), if_neg (by decide), hb, ← hd, ← h0]
  · have hmd : (maxD n).toNat = n.cells.length := by unfold maxD; rw [hd, List.length_map]; simp; split <;> omega
    have hb := cellsR_back (k := n.kind) (.inr e) n.cells ([bY n.kind] ++ num2 (maxD n) ++ num4 n.first) (n.data ++ z) (hcl (.inr e))
    rw [← e4 (by omega), show ([bY n.kind] ++ num2 (maxD n) ++ num4 n.first).length = 7 from rfl] at hb
    have q1 : (n.kind != 1) = true := by simp [e]
    have q2 : (n.kind == 3) = false := by simp [e]
    have q3 : decide (n.kind < 3) = true := by simp [e]
    rw [hmd, q1, q2, q3, if_pos rfl, if_pos rfl, if_pos rfl, if_neg (by decide), hb, e3 (by omega), ← hd]
  · have hmd : maxD n = n.data.length := by unfold maxD; rw [hc, List.length_map]; simp only [List.length_nil]; split <;> omega
    have hp : partR (putS n) 7 (maxD n) = n.data := part_at (pre := [bY n.kind] ++ num2 (maxD n) ++ num4 n.first) (r := z) (by rw [e4 (by omega), hc]; rfl) rfl hmd
    have q1 : (n.kind != 1) = true := by simp [e]
    have q2 : (n.kind == 3) = true := by simp [e]
    have q3 : decide (n.kind < 3) = false := by simp [e]
    rw [q1, q2, q3, if_pos rfl, if_pos rfl, if_pos rfl, if_neg (by decide), hp, e3 (by omega), ← hc]
  · have q1 : (n.kind != 1) = true := by simp [e]
    have q2 : (n.kind == 3) = false := by simp [e]
    have q3 : decide (n.kind < 3) = false := by simp [e]
    rw [q1, q2, q3, if_pos rfl, if_neg (by decide), if_neg (by decide), e3 (by omega), ← hc, ← hd]
end Go.Proofs.Ytchmeldlpoimnaa
