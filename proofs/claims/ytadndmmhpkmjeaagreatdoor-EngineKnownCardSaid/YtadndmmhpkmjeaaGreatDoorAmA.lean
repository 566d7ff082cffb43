/-
  Texts that the claim leans on, one behind the other: AmBase, AmRel, AmExec, AmMem, AmSt, AmSound1, AmSound2, AmSound3, AmSound4, AmSound5, AmSound6.
-/
import Derived.Calls
import Derived.Orders
import Derived.KernelRfl
import Derived.Wp
import Derived.Laws.Cells
import Derived.Laws.Tables
import Derived.IntWalk

/-
  The abstract machine: its values, its tables, and what they say of the model's values.
-/
namespace Go.Am

/-- Data: no places in it. 'lst': a slice that nobody writes any more; 'full': no room behind it. -/
inductive DV where
  | bool (b : Bool)
  | int (k : IntKind) (n : Int)
  | str (s : List UInt8)
  | agg (cs : List DV)
  | tup (vs : List DV)
  | lst (sz : Nat) (els : List DV) (full : Bool)
  | nilp | nilm | nilf | nili
  | iface (t : Nat) (v : DV)
  deriving Inhabited

def DV.cells : DV → List DV
  | .agg cs => cs
  | x => [x]

def DV.scal : DV → Bool
  | .agg _ => false
  | .tup _ => false
  | _ => true

def DV.byte : DV → UInt8
  | .int _ n => UInt8.ofNat n.toNat
  | _ => 0

/-- What a register or a cell of a box holds. -/
inductive RV where
  | bot
  | und
  | d (x : DV)
  | ptr (i off : Nat)
  | eptr (i sz idx off : Nat)
  | iptr (x : DV) (off : Nat)
  | own (i sz : Nat)
  | sub (i sz off len : Nat)
  | sl (i sz o len : Nat) (cap : Option Nat)
  | map (i : Nat)
  | clo (fn : Fn) (first caps : List RV)
  | agg (cs : List RV)
  | tup (vs : List RV)
  deriving Inhabited

/-- An object of the table. -/
inductive PObj where
  | box (ty : Nat) (cs : List RV)
  | arr (ty sz : Nat) (els : List DV)
  | frz (sz : Nat) (els : List DV)
  | gone
  | bld (s : List UInt8)
  | map (es : List (DV × DV))
  | rar (ty : Nat) (cs : List RV)
  | sit (s : List UInt8) (pos : Nat)
  | mit (m : Nat)
  deriving Inhabited

/-- A table by numbers. -/
inductive T (α : Type) where
  | nil
  | node (v : Option α) (l r : T α)
  deriving Inhabited

def T.get {α : Type} : T α → Nat → Option α
  | .nil, _ => none
  | .node v l r, n => bif Nat.beq n 0 then v else bif Nat.beq (n % 2) 1 then l.get (n / 2) else r.get (n / 2 - 1)

def T.put {α : Type} : Nat → T α → Nat → Option α → T α
  | 0, t, _, _ => t
  | f + 1, t, n, x =>
    match t with
    | .nil => bif Nat.beq n 0 then .node x .nil .nil else bif Nat.beq (n % 2) 1 then .node none (T.put f .nil (n / 2) x) .nil else .node none .nil (T.put f .nil (n / 2 - 1) x)
    | .node v l r => bif Nat.beq n 0 then .node x l r else bif Nat.beq (n % 2) 1 then .node v (T.put f l (n / 2) x) r else .node v l (T.put f r (n / 2 - 1) x)

def T.set {α : Type} (t : T α) (n : Nat) (x : Option α) : T α := T.put 16 t n x

def T.mk {α : Type} : List (Nat × α) → T α
  | [] => .nil
  | (n, x) :: r => (T.mk r).set n (some x)

theorem nbF {n m : Nat} (h : n ≠ m) : Nat.beq n m = false := by
  cases e : Nat.beq n m with
  | false => rfl
  | true => exact absurd (Nat.eq_of_beq_eq_true e) h
theorem nbT {n m : Nat} (h : n = m) : Nat.beq n m = true := by subst h; exact Nat.beq_refl n
theorem nbE {n m : Nat} (h : Nat.beq n m = true) : n = m := Nat.eq_of_beq_eq_true h

theorem T.get_put_ne {α : Type} {x : Option α} : ∀ (f : Nat) (t : T α), True → ∀ n m, m ≠ n → (T.put f t n x).get m = t.get m := by
  intro f
  induction f with
  | zero => intro t _ n m _; rfl
  | succ f ih =>
    intro t _ n m hne
    cases t with
    | nil =>
      simp only [T.put]
      by_cases h0 : n = 0
      · subst h0
        have : Nat.beq m 0 = false := nbF hne
        simp [T.get, this]
      · have hn0 : Nat.beq n 0 = false := nbF h0
        by_cases ho : n % 2 = 1
        · have : Nat.beq (n % 2) 1 = true := nbT ho
          simp only [hn0, this, cond_true, cond_false, T.get]
          by_cases hm0 : m = 0
          · subst hm0; simp
          · have hm0' : Nat.beq m 0 = false := nbF hm0
            simp only [hm0', cond_false]
            by_cases hmo : m % 2 = 1
            · have h2 : Nat.beq (m % 2) 1 = true := nbT hmo
              simp only [h2, cond_true]
              rw [ih .nil trivial (n / 2) (m / 2) (by omega)]; rfl
            · have h2 : Nat.beq (m % 2) 1 = false := nbF hmo
              simp only [h2, cond_false]
        · have : Nat.beq (n % 2) 1 = false := nbF ho
          simp only [hn0, this, cond_false, T.get]
          by_cases hm0 : m = 0
          · subst hm0; simp
          · have hm0' : Nat.beq m 0 = false := nbF hm0
            simp only [hm0', cond_false]
            by_cases hmo : m % 2 = 1
            · have h2 : Nat.beq (m % 2) 1 = true := nbT hmo
              simp only [h2, cond_true]
            · have h2 : Nat.beq (m % 2) 1 = false := nbF hmo
              simp only [h2, cond_false]
              rw [ih .nil trivial (n / 2 - 1) (m / 2 - 1) (by omega)]; rfl
    | node v l r =>
      simp only [T.put]
      by_cases h0 : n = 0
      · subst h0
        have : Nat.beq m 0 = false := nbF hne
        simp [T.get, this]
      · have hn0 : Nat.beq n 0 = false := nbF h0
        by_cases ho : n % 2 = 1
        · have : Nat.beq (n % 2) 1 = true := nbT ho
          simp only [hn0, this, cond_true, cond_false, T.get]
          by_cases hm0 : m = 0
          · subst hm0; simp
          · have hm0' : Nat.beq m 0 = false := nbF hm0
            simp only [hm0', cond_false]
            by_cases hmo : m % 2 = 1
            · have h2 : Nat.beq (m % 2) 1 = true := nbT hmo
              simp only [h2, cond_true]
              exact ih l trivial (n / 2) (m / 2) (by omega)
            · have h2 : Nat.beq (m % 2) 1 = false := nbF hmo
              simp only [h2, cond_false]
        · have : Nat.beq (n % 2) 1 = false := nbF ho
          simp only [hn0, this, cond_false, T.get]
          by_cases hm0 : m = 0
          · subst hm0; simp
          · have hm0' : Nat.beq m 0 = false := nbF hm0
            simp only [hm0', cond_false]
            by_cases hmo : m % 2 = 1
            · have h2 : Nat.beq (m % 2) 1 = true := nbT hmo
              simp only [h2, cond_true]
            · have h2 : Nat.beq (m % 2) 1 = false := nbF hmo
              simp only [h2, cond_false]
              exact ih r trivial (n / 2 - 1) (m / 2 - 1) (by omega)

theorem T.get_put_same {α : Type} {x : Option α} : ∀ (f : Nat) (t : T α) (n : Nat), n + 1 < 2 ^ f → (T.put f t n x).get n = x := by
  intro f
  induction f with
  | zero => intro t n h; omega
  | succ f ih =>
    intro t n h
    have hp : 2 ^ (f + 1) = 2 * 2 ^ f := by rw [Nat.pow_succ]; omega
    cases t with
    | nil =>
      simp only [T.put]
      by_cases h0 : n = 0
      · subst h0; simp [T.get]
      · have hn0 : Nat.beq n 0 = false := nbF h0
        by_cases ho : n % 2 = 1
        · have : Nat.beq (n % 2) 1 = true := nbT ho
          simp only [hn0, this, cond_true, cond_false, T.get]
          exact ih _ _ (by omega)
        · have : Nat.beq (n % 2) 1 = false := nbF ho
          simp only [hn0, this, cond_false, T.get]
          exact ih _ _ (by omega)
    | node v l r =>
      simp only [T.put]
      by_cases h0 : n = 0
      · subst h0; simp [T.get]
      · have hn0 : Nat.beq n 0 = false := nbF h0
        by_cases ho : n % 2 = 1
        · have : Nat.beq (n % 2) 1 = true := nbT ho
          simp only [hn0, this, cond_true, cond_false, T.get]
          exact ih _ _ (by omega)
        · have : Nat.beq (n % 2) 1 = false := nbF ho
          simp only [hn0, this, cond_false, T.get]
          exact ih _ _ (by omega)

theorem T.get_set_ne {α : Type} (t : T α) {n m : Nat} (h : m ≠ n) (x : Option α) : (t.set n x).get m = t.get m :=
  T.get_put_ne 16 t trivial n m h
theorem T.get_set_same {α : Type} (t : T α) {n : Nat} (h : n < 65535) (x : Option α) : (t.set n x).get n = x :=
  T.get_put_same 16 t n (by omega)

end Go.Am

/-
  The abstract machine: what its values, objects and states say of the model's.
-/
namespace Go.Am

inductive Cls where
  | imm | own (i : Nat) | oth
  deriving DecidableEq
inductive Blk where
  | un | nil | at (b : Nat)
  deriving DecidableEq
abbrev Kap := Nat → Cls
abbrev Phi := Nat → Blk
abbrev Heap := Array Obj
abbrev Tab := Nat → Option PObj

def ElsOk (sz : Nat) (els : List DV) : Prop := ∀ x ∈ els, x.cells.length = sz ∧ ∀ y ∈ x.cells, y.scal = true

/-- A datum and a value of the model's; what it reads in memory lies in blocks that nobody writes any more. -/
inductive DR (κ : Kap) (h : Heap) : DV → Value → Prop where
  | bool (b : Bool) : DR κ h (.bool b) (.bool b)
  | int (k : IntKind) (n : Int) : DR κ h (.int k n) (.int k n)
  | str (s : List UInt8) : DR κ h (.str s) (.string ⟨s.toArray⟩)
  | agg {cs : List DV} {vs : Array Value} (hl : vs.size = cs.length) (hs : ∀ y ∈ cs, y.scal = true)
      (hr : ∀ (i : Nat) (x : DV) (v : Value), cs[i]? = some x → vs[i]? = some v → DR κ h x v) : DR κ h (.agg cs) (.agg vs)
  | tup {cs : List DV} {vs : Array Value} (hl : vs.size = cs.length)
      (hr : ∀ (i : Nat) (x : DV) (v : Value), cs[i]? = some x → vs[i]? = some v → DR κ h x v) : DR κ h (.tup cs) (.tuple vs)
  | lst0 {sz : Nat} {full : Bool} {base : Option Addr} {cap : Nat} (hf : full = true → cap = 0 ∧ (sz = 0 → base = none)) : DR κ h (.lst sz [] full) (.slice base 0 cap)
  | lst {sz : Nat} {els : List DV} {full : Bool} {b off cap : Nat} {c : Array Value} {ty : TypeId} {fz : Nat × Nat}
      (hκ : κ b = .imm) (hb : h[b]? = some (.cells c ty fz)) (hf : full = true → cap = els.length ∧ 1 ≤ sz) (hc : els.length ≤ cap)
      (hs : off + cap * sz ≤ c.size) (hz : ElsOk sz els)
      (hr : ∀ (i : Nat) (x : DV) (j : Nat) (y : DV) (v : Value), els[i]? = some x → x.cells[j]? = some y → c[off + i * sz + j]? = some v → DR κ h y v) :
      DR κ h (.lst sz els full) (.slice (some ⟨b, off, none⟩) els.length cap)
  | nilp : DR κ h .nilp (.pointer none)
  | nilm : DR κ h .nilm (.map none)
  | nilf : DR κ h .nilf .nilFunc
  | nili : DR κ h .nili .nilIface
  | iface {t : TypeId} {x : DV} {v : Value} (hr : DR κ h x v) : DR κ h (.iface t x) (.iface t v)

theorem DR.mono {κ κ' : Kap} {h h' : Heap} (hm : ∀ b, κ b = .imm → κ' b = .imm ∧ h'[b]? = h[b]?) {x : DV} {v : Value} (r : DR κ h x v) : DR κ' h' x v := by
  induction r with
  | bool b => exact .bool b
  | int k n => exact .int k n
  | str s => exact .str s
  | agg hl hs _ ih => exact .agg hl hs ih
  | tup hl _ ih => exact .tup hl ih
  | lst0 hf => exact .lst0 hf
  | lst hκ hb hf hc hs hz _ ih => exact .lst (hm _ hκ).1 (by rw [(hm _ hκ).2]; exact hb) hf hc hs hz ih
  | nilp => exact .nilp
  | nilm => exact .nilm
  | nilf => exact .nilf
  | nili => exact .nili
  | iface _ ih => exact .iface ih

def PObj.len? : Option PObj → Option Nat
  | some (.arr _ _ els) => some els.length
  | some (.frz _ els) => some els.length
  | some (.rar _ cs) => some cs.length
  | _ => none

/-- What a register or a cell says of a value of the model's. -/
inductive RVR (κ : Kap) (φ : Phi) (O : Tab) (h : Heap) : RV → Value → Prop where
  | bot (v : Value) : RVR κ φ O h .bot v
  | und : RVR κ φ O h .und undef
  | d {x : DV} {v : Value} (hr : DR κ h x v) : RVR κ φ O h (.d x) v
  | ptr {i off b : Nat} (hφ : φ i = .at b) : RVR κ φ O h (.ptr i off) (.pointer (some ⟨b, off, none⟩))
  | eptr {i sz idx off b : Nat} (hφ : φ i = .at b) : RVR κ φ O h (.eptr i sz idx off) (.pointer (some ⟨b, idx * sz + off, none⟩))
  | iptr {x : DV} {off b o : Nat} {c : Array Value} {ty : TypeId} {fz : Nat × Nat} (hκ : κ b = .imm) (hb : h[b]? = some (.cells c ty fz))
      (hs : o + x.cells.length ≤ c.size) (hz : ∀ y ∈ x.cells, y.scal = true)
      (hr : ∀ (j : Nat) (y : DV) (v : Value), x.cells[j]? = some y → c[o + j]? = some v → DR κ h y v) :
      RVR κ φ O h (.iptr x off) (.pointer (some ⟨b, o + off, none⟩))
  | own {i sz b len cap : Nat} {c : Array Value} {ty : TypeId} {fz : Nat × Nat} (hφ : φ i = .at b) (hb : h[b]? = some (.cells c ty fz))
      (hcap : cap * sz ≤ c.size) (hlc : len ≤ cap) (hlen : ∀ n, PObj.len? (O i) = some n → len = n) :
      RVR κ φ O h (.own i sz) (.slice (some ⟨b, 0, none⟩) len cap)
  | ownNil {i sz : Nat} {base : Option Addr} (hφ : φ i = .nil) : RVR κ φ O h (.own i sz) (.slice base 0 0)
  | sub {i sz off len cap b : Nat} {c : Array Value} {ty : TypeId} {fz : Nat × Nat} (hφ : φ i = .at b) (hb : h[b]? = some (.cells c ty fz))
      (hcap : (off + cap) * sz ≤ c.size) (hlc : len ≤ cap) : RVR κ φ O h (.sub i sz off len) (.slice (some ⟨b, off * sz, none⟩) len cap)
  | sub0 {i sz off : Nat} {base : Option Addr} (hφ : φ i ≠ .un) : RVR κ φ O h (.sub i sz off 0) (.slice base 0 0)
  | map {i b : Nat} (hφ : φ i = .at b) : RVR κ φ O h (.map i) (.map (some b))
  | sl {i sz o len : Nat} {cap : Option Nat} {b o' capv : Nat} {c : Array Value} {ty : TypeId} {fz : Nat × Nat} (hφ : φ i = .at b) (hb : h[b]? = some (.cells c ty fz))
      (ho : o' = o ∨ capv = 0) (hs : o' + capv * sz ≤ c.size) (hl : len ≤ capv) (hc : ∀ k, cap = some k → capv = k)
      (hn : cap = none → ∀ n, PObj.len? (O i) = some n → n ≤ o + capv * sz) : RVR κ φ O h (.sl i sz o len cap) (.slice (some ⟨b, o', none⟩) len capv)
  | clo {fn : Fn} {fs cs : List RV} {f c : Array Value} (hfl : f.size = fs.length) (hcl : c.size = cs.length)
      (hf : ∀ (i : Nat) (x : RV) (v : Value), fs[i]? = some x → f[i]? = some v → RVR κ φ O h x v)
      (hc : ∀ (i : Nat) (x : RV) (v : Value), cs[i]? = some x → c[i]? = some v → RVR κ φ O h x v) : RVR κ φ O h (.clo fn fs cs) (.func fn f c)
  | agg {cs : List RV} {vs : Array Value} (hl : vs.size = cs.length)
      (hs : ∀ v ∈ vs, v.oneCell = true)
      (hr : ∀ (i : Nat) (x : RV) (v : Value), cs[i]? = some x → vs[i]? = some v → RVR κ φ O h x v) : RVR κ φ O h (.agg cs) (.agg vs)
  | tup {cs : List RV} {vs : Array Value} (hl : vs.size = cs.length)
      (hr : ∀ (i : Nat) (x : RV) (v : Value), cs[i]? = some x → vs[i]? = some v → RVR κ φ O h x v) : RVR κ φ O h (.tup cs) (.tuple vs)

structure Mono (κ : Kap) (φ : Phi) (O : Tab) (h : Heap) (κ' : Kap) (φ' : Phi) (O' : Tab) (h' : Heap) : Prop where
  imm : ∀ b, κ b = .imm → κ' b = .imm ∧ h'[b]? = h[b]?
  shp : ∀ (b : Nat) (c : Array Value) (ty : TypeId) (fz : Nat × Nat), h[b]? = some (.cells c ty fz) → ∃ c' fz', h'[b]? = some (.cells c' ty fz') ∧ c'.size = c.size
  phi : ∀ i, φ i ≠ .un → φ' i = φ i
  len : ∀ i n, φ i ≠ .un → PObj.len? (O' i) = some n → PObj.len? (O i) = some n

theorem Mono.refl (κ : Kap) (φ : Phi) (O : Tab) (h : Heap) : Mono κ φ O h κ φ O h :=
  ⟨fun _ hb => ⟨hb, rfl⟩, fun _ c _ fz hc => ⟨c, fz, hc, rfl⟩, fun _ _ => rfl, fun _ _ _ hn => hn⟩

theorem Mono.trans {κ κ' κ'' : Kap} {φ φ' φ'' : Phi} {O O' O'' : Tab} {h h' h'' : Heap} (a : Mono κ φ O h κ' φ' O' h') (b : Mono κ' φ' O' h' κ'' φ'' O'' h'') : Mono κ φ O h κ'' φ'' O'' h'' where
  imm := fun x hx => ⟨(b.imm x (a.imm x hx).1).1, (b.imm x (a.imm x hx).1).2.trans (a.imm x hx).2⟩
  shp := fun x c ty fz hc => by
    obtain ⟨c', fz', h1, h2⟩ := a.shp x c ty fz hc
    obtain ⟨c'', fz'', h3, h4⟩ := b.shp x c' ty fz' h1
    exact ⟨c'', fz'', h3, h4.trans h2⟩
  phi := fun i hi => by rw [b.phi i (by rw [a.phi i hi]; exact hi), a.phi i hi]
  len := fun i n hi hn => a.len i n hi (b.len i n (by rw [a.phi i hi]; exact hi) hn)

theorem RVR.mono {κ κ' : Kap} {φ φ' : Phi} {O O' : Tab} {h h' : Heap} (M : Mono κ φ O h κ' φ' O' h') {x : RV} {v : Value} (r : RVR κ φ O h x v) : RVR κ' φ' O' h' x v := by
  induction r with
  | bot v => exact .bot v
  | und => exact .und
  | d hr => exact .d (hr.mono M.imm)
  | ptr hφ => exact .ptr (by rw [M.phi _ (by rw [hφ]; simp)]; exact hφ)
  | eptr hφ => exact .eptr (by rw [M.phi _ (by rw [hφ]; simp)]; exact hφ)
  | iptr hκ hb hs hz hr => exact .iptr (M.imm _ hκ).1 (by rw [(M.imm _ hκ).2]; exact hb) hs hz (fun j y v hy hv => (hr j y v hy hv).mono M.imm)
  | own hφ hb hcap hlc hlen =>
    obtain ⟨c', fz', h1, h2⟩ := M.shp _ _ _ _ hb
    exact .own (by rw [M.phi _ (by rw [hφ]; simp)]; exact hφ) h1 (by rw [h2]; exact hcap) hlc (fun n hn => hlen n (M.len _ n (by rw [hφ]; simp) hn))
  | ownNil hφ => exact .ownNil (by rw [M.phi _ (by rw [hφ]; simp)]; exact hφ)
  | sub hφ hb hcap hlc =>
    obtain ⟨c', fz', h1, h2⟩ := M.shp _ _ _ _ hb
    exact .sub (by rw [M.phi _ (by rw [hφ]; simp)]; exact hφ) h1 (by rw [h2]; exact hcap) hlc
  | sub0 hφ => exact .sub0 (by rw [M.phi _ hφ]; exact hφ)
  | map hφ => exact .map (by rw [M.phi _ (by rw [hφ]; simp)]; exact hφ)
  | sl hφ hb ho hs hl hc hn =>
    obtain ⟨c', fz', h1, h2⟩ := M.shp _ _ _ _ hb
    exact .sl (by rw [M.phi _ (by rw [hφ]; simp)]; exact hφ) h1 ho (by rw [h2]; exact hs) hl hc (fun e n hlen => hn e n (M.len _ n (by rw [hφ]; simp) hlen))
  | clo hfl hcl _ _ ihf ihc => exact .clo hfl hcl ihf ihc
  | agg hl hs _ ih => exact .agg hl hs ih
  | tup hl _ ih => exact .tup hl ih

/-- No cell ahead of 'n' is frozen. -/
def FzOk (fz : Nat × Nat) (n : Nat) : Prop := ∀ o, o < n → ¬ (fz.1 ≤ o ∧ o < fz.2)

/-- The elements lie in a row of cells from 'off' on. -/
def EL (κ : Kap) (h : Heap) (c : Array Value) (off sz : Nat) (els : List DV) : Prop :=
  ElsOk sz els ∧ off + els.length * sz ≤ c.size ∧
  ∀ (i : Nat) (x : DV) (j : Nat) (y : DV) (v : Value), els[i]? = some x → x.cells[j]? = some y → c[off + i * sz + j]? = some v → DR κ h y v

theorem EL.mono {κ κ' : Kap} {h h' : Heap} (hm : ∀ b, κ b = .imm → κ' b = .imm ∧ h'[b]? = h[b]?) {c : Array Value} {off sz : Nat} {els : List DV} (e : EL κ h c off sz els) : EL κ' h' c off sz els :=
  ⟨e.1, e.2.1, fun i x j y v hx hy hv => (e.2.2 i x j y v hx hy hv).mono hm⟩

/-- The cells of a strings.Builder whose text is 's': its own address (or none, at the start), and its bytes' slice, whose block is its own too. -/
def BldOk (κ : Kap) (i b : Nat) (h : Heap) (c : Array Value) (s : List UInt8) : Prop :=
  (s = [] ∧ (c = #[.pointer none, .slice none 0 0] ∨ c = #[.pointer (some ⟨b, 0, none⟩), .slice none 0 0])) ∨
  (∃ b2 cap c2 ty2 lo hi, c = #[.pointer (some ⟨b, 0, none⟩), .slice (some ⟨b2, 0, none⟩) s.length cap] ∧ κ b2 = .own i ∧ b2 ≠ b ∧
    h[b2]? = some (.cells c2 ty2 (lo, hi)) ∧ (hi ≤ s.length ∨ (lo = hi)) ∧ s.length ≤ cap ∧ cap ≤ c2.size ∧
    ∀ (j : Nat) (x : UInt8), s[j]? = some x → c2[j]? = some (.int .u8 x.toNat))

/-- A map has so many entries, and no two of them were born at one time. -/
def SzOk (mes : Array MapEntry) (n : Nat) : Prop := mes.size = n ∧ (mes.toList.map fun e => e.born).Nodup

/-- Values lie in a row of cells from 'o' on. -/
def RL (κ : Kap) (φ : Phi) (O : Tab) (h : Heap) (c : Array Value) (o : Nat) (cs : List RV) : Prop :=
  o + cs.length ≤ c.size ∧ ∀ (j : Nat) (x : RV) (v : Value), cs[j]? = some x → c[o + j]? = some v → RVR κ φ O h x v ∧ v.oneCell = true

theorem RL.mono {κ κ' : Kap} {φ φ' : Phi} {O O' : Tab} {h h' : Heap} (M : Mono κ φ O h κ' φ' O' h') {c : Array Value} {o : Nat} {cs : List RV} (r : RL κ φ O h c o cs) : RL κ' φ' O' h' c o cs :=
  ⟨r.1, fun j x v hx hv => ⟨(r.2 j x v hx hv).1.mono M, (r.2 j x v hx hv).2⟩⟩

/-- Blocks that lie outside, and what lies in them: the variables of the program; the types of cells of which a row may bear a string's mark behind its end. -/
class Gl where
  gl : List (Nat × Array Value)
  mark : TypeId → Bool := fun _ => true

/-- No cell is frozen, and no mark stands behind the last one (but of the types that may bear one). -/
def FzR [Gl] (ty : TypeId) (fz : Nat × Nat) (n : Nat) : Prop := FzOk fz n ∧ (Gl.mark ty = false → fz.2 ≤ n)

/-- What an object's row of the table says of memory. -/
def OR [Gl] (κ : Kap) (φ : Phi) (O : Tab) (h : Heap) (i : Nat) : Option PObj → Prop
  | none => φ i = .un
  | some .gone => True
  | some (.box ty cs) => ∃ b c, φ i = .at b ∧ κ b = .own i ∧ h[b]? = some (.cells c ty (0, 0)) ∧ c.size = cs.length ∧ (∀ v ∈ c, v.oneCell = true) ∧
      ∀ (j : Nat) (x : RV) (v : Value), cs[j]? = some x → c[j]? = some v → RVR κ φ O h x v
  | some (.arr ty sz els) => (φ i = .nil ∧ els = []) ∨ ∃ b c fz, φ i = .at b ∧ κ b = .own i ∧ h[b]? = some (.cells c ty fz) ∧ FzOk fz c.size ∧ EL κ h c 0 sz els
  | some (.frz sz els) => (φ i = .nil ∧ els = []) ∨ ∃ b c ty fz, φ i = .at b ∧ κ b = .imm ∧ h[b]? = some (.cells c ty fz) ∧ EL κ h c 0 sz els
  | some (.rar ty cs) => ∃ b c fz, φ i = .at b ∧ κ b = .own i ∧ h[b]? = some (.cells c ty fz) ∧ FzR ty fz c.size ∧ RL κ φ O h c 0 cs
  | some (.sit s pos) => ∃ b, φ i = .at b ∧ κ b = .own i ∧ h[b]? = some (.stringIter ⟨s.toArray⟩ pos)
  | some (.mit m) => ∃ b mb c, φ i = .at b ∧ κ b = .own i ∧ φ m = .at mb ∧ h[b]? = some (.mapIter (some mb) c #[] c)
  | some (.bld s) => ∃ b c ty, φ i = .at b ∧ κ b = .own i ∧ h[b]? = some (.cells c ty (0, 0)) ∧ BldOk κ i b h c s
  | some (.map es) => ∃ b mes clock, φ i = .at b ∧ κ b = .own i ∧ h[b]? = some (.map mes clock) ∧ SzOk mes es.length ∧
      ∀ (j : Nat) (x : DV × DV) (e : MapEntry), es[j]? = some x → mes[j]? = some e → DR κ h x.1 e.key ∧ DR κ h x.2 e.val ∧ e.born < clock

theorem OR.mono [Gl] {κ κ' : Kap} {φ φ' : Phi} {O O' : Tab} {h h' : Heap} {i : Nat} {ob : Option PObj} (M : Mono κ φ O h κ' φ' O' h')
    (hk : ∀ b, κ b = .own i → κ' b = .own i ∧ h'[b]? = h[b]?) (hp : φ' i = φ i) (r : OR κ φ O h i ob) : OR κ' φ' O' h' i ob := by
  cases ob with
  | none => exact hp.trans r
  | some p =>
    cases p with
    | gone => exact trivial
    | box ty cs =>
      obtain ⟨b, c, h1, h2, h3, h4, h5, h6⟩ := r
      exact ⟨b, c, hp.trans h1, (hk b h2).1, (hk b h2).2.trans h3, h4, h5, fun j x v hx hv => (h6 j x v hx hv).mono M⟩
    | arr ty sz els =>
      rcases r with ⟨h1, h2⟩ | ⟨b, c, fz, h1, h2, h3, h4, h5⟩
      · exact .inl ⟨hp.trans h1, h2⟩
      · exact .inr ⟨b, c, fz, hp.trans h1, (hk b h2).1, (hk b h2).2.trans h3, h4, h5.mono M.imm⟩
    | frz sz els =>
      rcases r with ⟨h1, h2⟩ | ⟨b, c, ty, fz, h1, h2, h3, h5⟩
      · exact .inl ⟨hp.trans h1, h2⟩
      · exact .inr ⟨b, c, ty, fz, hp.trans h1, (M.imm b h2).1, (M.imm b h2).2.trans h3, h5.mono M.imm⟩
    | rar ty cs =>
      obtain ⟨b, c, fz, h1, h2, h3, h4, h5⟩ := r
      exact ⟨b, c, fz, hp.trans h1, (hk b h2).1, (hk b h2).2.trans h3, h4, h5.mono M⟩
    | sit s pos =>
      obtain ⟨b, h1, h2, h3⟩ := r
      exact ⟨b, hp.trans h1, (hk b h2).1, (hk b h2).2.trans h3⟩
    | mit m =>
      obtain ⟨b, mb, c, h1, h2, h3, h4⟩ := r
      exact ⟨b, mb, c, hp.trans h1, (hk b h2).1, by rw [M.phi m (by rw [h3]; simp)]; exact h3, (hk b h2).2.trans h4⟩
    | bld s =>
      obtain ⟨b, c, ty, h1, h2, h3, h4⟩ := r
      refine ⟨b, c, ty, hp.trans h1, (hk b h2).1, (hk b h2).2.trans h3, ?_⟩
      rcases h4 with h4 | ⟨b2, cap, c2, ty2, lo, hi, g1, g2, g3, g4, g5⟩
      · exact .inl h4
      · exact .inr ⟨b2, cap, c2, ty2, lo, hi, g1, (hk b2 g2).1, g3, (hk b2 g2).2.trans g4, g5⟩
    | map es =>
      obtain ⟨b, mes, clock, h1, h2, h3, h4, h5⟩ := r
      refine ⟨b, mes, clock, hp.trans h1, (hk b h2).1, (hk b h2).2.trans h3, h4, fun j x e hx he => ?_⟩
      obtain ⟨g1, g2, g3⟩ := h5 j x e hx he
      exact ⟨g1.mono M.imm, g2.mono M.imm, g3⟩

/-- A state of the abstract machine, as functions. -/
structure SSt where
  n : Nat
  R : Nat → RV
  O : Tab
  df : List (Nat × List RV) := []

/-- The calls that the frame has deferred: of the program's functions, with their arguments. -/
def DfR (κ : Kap) (φ : Phi) (O : Tab) (h : Heap) : List (Nat × List RV) → List Deferred → Prop
  | [], [] => True
  | p :: l, d :: ds => d.target = .fn (.func p.1) #[] ∧ d.args.size = p.2.length ∧
      (∀ (i : Nat) (x : RV) (v : Value), p.2[i]? = some x → d.args[i]? = some v → RVR κ φ O h x v) ∧ DfR κ φ O h l ds
  | _, _ => False

theorem DfR.nil {κ : Kap} {φ : Phi} {O : Tab} {h : Heap} {ds : List Deferred} (r : DfR κ φ O h [] ds) : ds = [] := by
  cases ds with
  | nil => rfl
  | cons => exact r.elim

theorem DfR.mono {κ κ' : Kap} {φ φ' : Phi} {O O' : Tab} {h h' : Heap} (M : Mono κ φ O h κ' φ' O' h') : ∀ {l : List (Nat × List RV)} {ds : List Deferred}, DfR κ φ O h l ds → DfR κ' φ' O' h' l ds
  | [], [], _ => trivial
  | _ :: _, _ :: _, r => ⟨r.1, r.2.1, fun i x v hx hv => (r.2.2.1 i x v hx hv).mono M, r.2.2.2.mono M⟩
  | [], _ :: _, r => r.elim
  | _ :: _, [], r => r.elim

/-- What the frame has deferred so far. -/
class Df where
  df : List (Nat × List RV)

instance (priority := low) noDf : Df := ⟨[]⟩

structure Bnd [Gl] (κ : Kap) (w : World) : Prop where
  lt : ∀ b, κ b ≠ .oth → b < w.heap.size
  gl : ∀ p ∈ Gl.gl, κ p.1 = .oth ∧ ∃ ty fz, w.heap[p.1]? = some (.cells p.2 ty fz)

structure FRel [Gl] (κ : Kap) (φ : Phi) (w : World) (s : SSt) (a : Act) : Prop where
  regs : ∀ t, RVR κ φ s.O w.heap (s.R t) (a.tmps.getD t undef)
  objs : ∀ i, OR κ φ s.O w.heap i (s.O i)
  bnd : Bnd κ w
  n : a.tmps.size = s.n
  df : DfR κ φ s.O w.heap s.df a.defers

/-- What a run leaves: blocks that are others' stay as they are; what nobody writes any more stays; rows of cells stay rows of as many. -/
structure Fr (κ : Kap) (w : World) (κ' : Kap) (w' : World) : Prop where
  size : w.heap.size ≤ w'.heap.size
  imm : ∀ b, κ b = .imm → κ' b = .imm ∧ w'.heap[b]? = w.heap[b]?
  oth : ∀ b, b < w.heap.size → κ b = .oth → κ' b = .oth ∧ w'.heap[b]? = w.heap[b]?
  shp : ∀ (b : Nat) (c : Array Value) (ty : TypeId) (fz : Nat × Nat), w.heap[b]? = some (.cells c ty fz) → ∃ c' fz', w'.heap[b]? = some (.cells c' ty fz') ∧ c'.size = c.size
  os : w'.os = w.os
  out : w'.output = w.output

theorem Bnd.step [Gl] {κ κ' : Kap} {w w' : World} (h : Bnd κ w) (f : Fr κ w κ' w') (hb : ∀ b, κ' b ≠ .oth → b < w'.heap.size) : Bnd κ' w' :=
  ⟨hb, fun p hp => by
    obtain ⟨h1, ty, fz, h2⟩ := h.gl p hp
    have hlt := (Array.getElem?_eq_some_iff.1 h2).1
    obtain ⟨h3, h4⟩ := f.oth p.1 hlt h1
    exact ⟨h3, ty, fz, h4.trans h2⟩⟩
theorem Bnd.same [Gl] {κ κ' : Kap} {w : World} (h : Bnd κ w) (h1 : ∀ b, κ b = .oth → κ' b = .oth) : Bnd κ' w :=
  ⟨fun b hb => h.lt b (fun e => hb (h1 b e)), fun p hp => ⟨h1 _ (h.gl p hp).1, (h.gl p hp).2⟩⟩

theorem Fr.refl (κ : Kap) (w : World) : Fr κ w κ w := ⟨Nat.le_refl _, fun _ hb => ⟨hb, rfl⟩, fun _ _ hb => ⟨hb, rfl⟩, fun _ c _ fz hc => ⟨c, fz, hc, rfl⟩, rfl, rfl⟩

theorem Fr.trans {κ κ' κ'' : Kap} {w w' w'' : World} (a : Fr κ w κ' w') (b : Fr κ' w' κ'' w'') : Fr κ w κ'' w'' where
  size := Nat.le_trans a.size b.size
  imm := fun x hx => ⟨(b.imm x (a.imm x hx).1).1, (b.imm x (a.imm x hx).1).2.trans (a.imm x hx).2⟩
  oth := fun x hb hx => by
    have h1 := a.oth x hb hx
    have h2 := b.oth x (Nat.lt_of_lt_of_le hb a.size) h1.1
    exact ⟨h2.1, h2.2.trans h1.2⟩
  shp := fun x c ty fz hc => by
    obtain ⟨c', fz', h1, h2⟩ := a.shp x c ty fz hc
    obtain ⟨c'', fz'', h3, h4⟩ := b.shp x c' ty fz' h1
    exact ⟨c'', fz'', h3, h4.trans h2⟩
  os := b.os.trans a.os
  out := b.out.trans a.out

theorem DR.oneCell {κ : Kap} {h : Heap} {x : DV} {v : Value} (r : DR κ h x v) (hs : x.scal = true) : v.oneCell = true := by
  cases r <;> first | rfl | (simp [DV.scal] at hs)

/-- The cells of a datum and of its value. -/
theorem DR.cells {κ : Kap} {h : Heap} {x : DV} {v : Value} (r : DR κ h x v) :
    v.cells.size = x.cells.length ∧ ∀ (j : Nat) (y : DV) (u : Value), x.cells[j]? = some y → v.cells[j]? = some u → DR κ h y u := by
  cases r with
  | agg hl hs hr => exact ⟨hl, hr⟩
  | _ => refine ⟨rfl, fun j y u hy hu => ?_⟩ <;> (cases j with
    | zero => simp only [DV.cells, Value.cells, List.getElem?_cons_zero, Option.some.injEq] at hy hu; subst hy; simp at hu; subst hu; constructor <;> assumption
    | succ j => simp [DV.cells] at hy)

end Go.Am

/-
  The abstract machine: what an operation does, as a function.
-/
namespace Go.Am
set_option linter.unusedSectionVars false
variable [Gl]

structure Env where
  und : Nat → Option TypeDesc
  size : Nat → Option Nat
  bytes : Nat → Option Nat
  zero : Nat → Option DV
  eqOk : Nat → Bool

def oneOf : Value → Option DV
  | .bool b => some (.bool b)
  | .int k n => some (.int k n)
  | .string s => some (.str s.data.toList)
  | .pointer none => some .nilp
  | .slice none l c => bif Nat.beq l 0 && Nat.beq c 0 then some (.lst 0 [] true) else none
  | .map none => some .nilm
  | .nilFunc => some .nilf
  | .nilIface => some .nili
  | _ => none
def oneAll : List Value → Option (List DV)
  | [] => some []
  | v :: r => match oneOf v, oneAll r with
    | some x, some l => some (x :: l)
    | _, _ => none
def DV.ofVal : Value → Option DV
  | .agg cs => match oneAll cs.toList with
    | some l => some (.agg l)
    | none => none
  | .tuple cs => match oneAll cs.toList with
    | some l => some (.tup l)
    | none => none
  | v => oneOf v

def Env.of (P : Program) : Env where
  und := P.underlying
  size := fun t => match P.underlying t, P.info? t with
    | some _, some i => some i.size
    | _, _ => none
  bytes := fun t => match P.info? t with
    | some i => some i.bytes
    | none => none
  zero := fun t => match P.info? t with
    | some i => match i.zero with
      | some v => DV.ofVal v
      | none => none
    | none => none
  eqOk := fun t => !(P.stoodInHeld t) && !(P.eqGuardType P.depth t)

def Env.isAgg (E : Env) (t : Nat) : Bool :=
  match E.und t with
  | some (.struct _) => true
  | some (.array _ _) => true
  | _ => false

def rvOf (R : Nat → RV) : Operand → RV
  | .tmp t => R t
  | .const v => match DV.ofVal v with
    | some x => .d x
    | none => .bot
  | .global _ => .bot
  | .func f => .clo (.func f) [] []

structure Res where
  val : RV
  upd : List (Nat × PObj) := []
  conds : List Bool := []

def RV.cells : RV → List RV
  | .d x => x.cells.map .d
  | .agg cs => cs
  | v => [v]

def allD : List RV → Option (List DV)
  | [] => some []
  | .d x :: r => match allD r with
    | some l => some (x :: l)
    | none => none
  | _ :: _ => none

def mkAgg (cs : List RV) : RV :=
  match allD cs with
  | some l => .d (.agg l)
  | none => .agg cs

/-- A register's slice or scalar as a datum: an array of one's own is frozen. -/
def tkCell (O : Tab) : RV → Option (DV × List (Nat × PObj) × List Bool)
  | .d x => some (x, [], [])
  | .own i sz => match O i with
    | some (.arr _ sz' els) => bif Nat.beq sz' sz then some (.lst sz els false, [(i, .frz sz els)], []) else none
    | some (.frz sz' els) => bif Nat.beq sz' sz then some (.lst sz els false, [], []) else none
    | _ => none
  | .sub i sz off len => match O i with
    | some (.arr _ sz' els) => bif Nat.beq sz' sz then some (.lst sz ((els.drop off).take len) false, [(i, .frz sz els)], [decide (off + len ≤ els.length)]) else none
    | some (.frz sz' els) => bif Nat.beq sz' sz then some (.lst sz ((els.drop off).take len) false, [], [decide (off + len ≤ els.length)]) else none
    | _ => none
  | _ => none
def tkCells (O : Tab) : List RV → Option (List DV × List (Nat × PObj) × List Bool)
  | [] => some ([], [], [])
  | v :: r => match tkCell O v, tkCells O r with
    | some (x, u, c), some (l, u', c') => bif x.scal then some (x :: l, u ++ u', c ++ c') else none
    | _, _ => none
def tkDV (O : Tab) : RV → Option (DV × List (Nat × PObj) × List Bool)
  | .agg cs => match tkCells O cs with
    | some (l, u, c) => some (.agg l, u, c)
    | none => none
  | v => tkCell O v

/-- Rows of cells, so many each, as elements. -/
def chunks (sz : Nat) (agg : Bool) : Nat → List DV → List DV
  | 0, _ => []
  | n + 1, l => (bif agg then .agg (l.take sz) else l.headD .nilp) :: chunks sz agg n (l.drop sz)

def allScal (l : List DV) : Bool := l.all DV.scal

/-- A new variable of a type, that holds these cells. -/
def newObj (E : Env) (t : Nat) (v : RV) : Option (PObj × List (Nat × PObj) × List Bool) :=
  match E.size t with
  | none => none
  | some z =>
    match E.und t with
    | some (.array n e) =>
      match v, E.size e with
      | .d (.agg cs), some sz => bif Nat.beq cs.length z && Nat.beq z (n * sz) && allScal cs && Nat.ble 1 sz && (E.isAgg e || Nat.beq sz 1) then some (.arr t sz (chunks sz (E.isAgg e) n cs), [], []) else none
      | _, _ => none
    | _ => bif Nat.beq v.cells.length z then
        match v with
        | .d (.tup _) => none
        | .tup _ => none
        | .bot => none
        | .und => none
        | _ => some (.box t v.cells, [], [])
      else none

def exAlloc (E : Env) (O : Tab) (sl t : Nat) (v : RV) : Option Res :=
  match O sl with
  | some _ => none
  | none => match newObj E t v with
    | some (p, u, c) => some { val := .ptr sl 0, upd := (sl, p) :: u, conds := c }
    | none => none

/-- The parts of a struct or an array that is built, laid over noughts. -/
def laid (size : Nat → Option (Nat × Nat)) (z : List RV) : List (Nat × RV) → Option (List RV)
  | [] => some z
  | (i, v) :: r => match size i with
    | some (off, n) => bif Nat.beq v.cells.length n && Nat.ble (off + n) z.length then laid size (z.take off ++ v.cells ++ z.drop (off + n)) r else none
    | none => none

def fieldSpot (E : Env) (fs : Array Field) (i : Nat) : Option (Nat × Nat) :=
  match fs[i]? with
  | some f => match E.size f.type with
    | some n => some (f.offset, n)
    | none => none
  | none => none

def okPart : RV → Bool
  | .bot => false
  | .und => false
  | .tup _ => false
  | .d (.tup _) => false
  | _ => true

def exBuild (E : Env) (t : Nat) (parts : List (Nat × RV)) : Option Res :=
  bif parts.all (fun p => okPart p.2) then
    match E.zero t, E.und t with
    | some z, some (.struct fs) => bif fs.toList.all (fun f => (E.size f.type).isSome) && okPart (.d z) then
        match laid (fieldSpot E fs) (z.cells.map .d) parts with
        | some cs => some { val := mkAgg cs }
        | none => none
      else none
    | some z, some (.array _ e) => match E.size e with
      | some sz => bif okPart (.d z) then
          match laid (fun i => some (i * sz, sz)) (z.cells.map .d) parts with
          | some cs => some { val := mkAgg cs }
          | none => none
        else none
      | none => none
    | _, _ => none
  else none

def tkAll (O : Tab) : List (Nat × RV) → Option (List (Nat × DV) × List (Nat × PObj) × List Bool)
  | [] => some ([], [], [])
  | (i, v) :: r => match tkDV O v, tkAll O r with
    | some (x, u, c), some (l, u', c') => some ((i, x) :: l, u ++ u', c ++ c')
    | _, _ => none

/-- The parts of a slice that is written out: only such whose every element stands there, in order. -/
def partEls (sz : Nat) : Nat → List (Nat × DV) → Option (List DV)
  | _, [] => some []
  | k, (i, x) :: r => bif Nat.beq i k && Nat.beq x.cells.length sz && allScal x.cells then
      match partEls sz (k + 1) r with
      | some l => some (x :: l)
      | none => none
    else none

def exBuildSlice (E : Env) (O : Tab) (sl t len : Nat) (parts : List (Nat × RV)) : Option Res :=
  match O sl, E.und t with
  | none, some (.slice e) => match E.size e, E.zero e with
    | some sz, some _ => match tkAll O parts with
      | some (ps, u, c) => bif Nat.beq ps.length len && Nat.ble 1 sz && Nat.ble (len * sz) 1000000 && (u.all fun p => !(Nat.beq p.1 sl)) then
          match partEls sz 0 ps with
          | some els => some { val := .own sl sz, upd := u ++ [(sl, .arr e sz els)], conds := c }
          | none => none
        else none
      | none => none
    | _, _ => none
  | _, _ => none

/-- So many cells of a datum, from a place on, as a value of a type. -/
def cut (E : Env) (t z : Nat) (cs : List DV) (off : Nat) : Option DV :=
  bif Nat.ble (off + z) cs.length then
    bif E.isAgg t then some (.agg ((cs.drop off).take z)) else bif Nat.beq z 1 then some (cs.getD off .nilp) else none
  else none

/-- An element of an array, or a part of it, as a value of a type. -/
def elLoad0 (E : Env) (t z sz off idx : Nat) (els : List DV) : Option (DV × List Bool) :=
  bif Nat.beq off 0 && Nat.beq z sz && Nat.beq sz 1 && !E.isAgg t then some (els.getD idx .nilp, [decide (idx < els.length), (els.getD idx .nilp).scal])
  else match cut E t z (els.getD idx .nilp).cells off with
    | some y => some (y, [decide (idx < els.length)])
    | none => none

def cutC (E : Env) (t z : Nat) (cs : List DV) (off : Nat) : Option (DV × List Bool) :=
  bif E.isAgg t then some (.agg ((cs.drop off).take z), [Nat.ble (off + z) cs.length]) else bif Nat.beq z 1 then some (cs.getD off .nilp, [Nat.ble (off + z) cs.length]) else none

/-- The same, that its parts are there a condition. -/
def elLoad (E : Env) (t z sz off idx : Nat) (els : List DV) : Option (DV × List Bool) :=
  bif Nat.beq off 0 && Nat.beq z sz && Nat.beq sz 1 && !E.isAgg t then some (els.getD idx .nilp, [decide (idx < els.length), (els.getD idx .nilp).scal])
  else match cutC E t z (els.getD idx .nilp).cells off with
    | some (y, c) => some (y, decide (idx < els.length) :: c)
    | none => none

def exLoad (E : Env) (O : Tab) (t : Nat) (a : RV) : Option Res :=
  match E.size t with
  | none => none
  | some z =>
    match a with
    | .iptr x off => match cut E t z x.cells off with
      | some y => some { val := .d y }
      | none => none
    | .ptr i off => match O i with
      | some (.box _ cs) => bif Nat.ble (off + z) cs.length then
          bif E.isAgg t then some { val := mkAgg ((cs.drop off).take z) } else bif Nat.beq z 1 then some { val := cs.getD off .bot } else none
        else none
      | some (.arr _ sz els) => bif E.isAgg t && Nat.beq off 0 then some { val := .d (.agg (els.flatMap DV.cells)), conds := [decide (els.length * sz = z)] } else none
      | _ => none
    | .eptr i sz idx off => match O i with
      | some (.arr _ sz' els) => bif Nat.beq sz' sz then
          match elLoad E t z sz off idx els with
          | some (y, c) => some { val := .d y, conds := c }
          | none => none
        else none
      | some (.frz sz' els) => bif Nat.beq sz' sz then
          match elLoad E t z sz off idx els with
          | some (y, c) => some { val := .d y, conds := c }
          | none => none
        else none
      | _ => none
    | _ => none

def splice {α : Type} (cs : List α) (off : Nat) (vs : List α) : List α := cs.take off ++ vs ++ cs.drop (off + vs.length)

def exStore (E : Env) (O : Tab) (t : Nat) (a v : RV) : Option Res :=
  match E.size t with
  | none => none
  | some z =>
    match a with
    | .ptr i off => match O i with
      | some (.box ty cs) => bif okPart v && Nat.beq v.cells.length z && Nat.ble (off + z) cs.length then some { val := .bot, upd := [(i, .box ty (splice cs off v.cells))] } else none
      | some (.arr ty sz els) => match v, E.und t with
        | .d (.agg l), some (.array n e) => bif Nat.beq off 0 && Nat.beq l.length z && Nat.beq z (n * sz) && allScal l && Nat.ble 1 sz && (E.isAgg e || Nat.beq sz 1) then some { val := .bot, upd := [(i, .arr ty sz (chunks sz (E.isAgg e) n l))], conds := [decide (els.length = n)] } else none
        | _, _ => none
      | _ => none
    | .eptr i sz idx off => match O i with
      | some (.arr ty sz' els) => bif Nat.beq sz' sz then
          match tkDV O v with
          | some (y, u, c) =>
            bif !(u.all fun p => !(Nat.beq p.1 i)) then none else
            bif Nat.beq off 0 && Nat.beq z sz && Nat.beq y.cells.length sz && allScal y.cells then some { val := .bot, upd := u ++ [(i, .arr ty sz (els.set idx y))], conds := decide (idx < els.length) :: c }
            else bif Nat.beq y.cells.length z && allScal y.cells then some { val := .bot, upd := u ++ [(i, .arr ty sz (els.set idx (.agg (splice (els.getD idx .nilp).cells off y.cells))))], conds := decide (idx < els.length) :: Nat.ble (off + z) (els.getD idx .nilp).cells.length :: c } else none
          | none => none
        else none
      | _ => none
    | _ => none

def isPtr : RV → Bool
  | .ptr _ _ => true
  | .eptr _ _ _ _ => true
  | .iptr _ _ => true
  | _ => false

def kindEq (a b : IntKind) : Bool := match a, b with
  | .i8, .i8 => true | .i16, .i16 => true | .i32, .i32 => true | .i64, .i64 => true
  | .u8, .u8 => true | .u16, .u16 => true | .u32, .u32 => true | .u64, .u64 => true
  | _, _ => false

/-- Two scalars of a type: are they the same? -/
def eqS : Option TypeDesc → DV → DV → Option Bool
  | some (.int _), .int k a, .int k' b => bif kindEq k k' then some (a == b) else none
  | some .string, .str a, .str b => some (a == b)
  | some .bool, .bool a, .bool b => some (a == b)
  | _, _, _ => none

/-- A struct whose fields are scalars, one behind the other. -/
def eqFieldsD (E : Env) : Nat → List Field → List DV → List DV → Option Bool
  | _, [], [], [] => some true
  | k, f :: fs, a :: r, b :: q => bif (f.name != "_") && Nat.beq f.offset k then
      match eqS (E.und f.type) a b, eqFieldsD E (k + 1) fs r q with
      | some x, some y => some (x && y)
      | _, _ => none
    else none
  | _, _, _, _ => none

def bits (op : BinOp) (k : IntKind) (x y : Int) : Int :=
  let a := BitVec.ofInt k.bits x
  let b := BitVec.ofInt k.bits y
  k.wrap ((match op with
    | .and => a &&& b
    | .or => a ||| b
    | .xor => a ^^^ b
    | _ => a &&& ~~~b).toNat : Int)

def exInt (op : BinOp) (k : IntKind) (a b : Int) : Option (DV × List Bool) :=
  match op with
  | .add => some (.int k (k.wrap (a + b)), [])
  | .sub => some (.int k (k.wrap (a - b)), [])
  | .mul => some (.int k (k.wrap (a * b)), [])
  | .quo => some (.int k (k.wrap (a.tdiv b)), [b != 0])
  | .rem => some (.int k (a.tmod b), [b != 0])
  | .and => some (.int k (bits .and k a b), [])
  | .or => some (.int k (bits .or k a b), [])
  | .xor => some (.int k (bits .xor k a b), [])
  | .andNot => some (.int k (bits .andNot k a b), [])
  | .eql => some (.bool (a == b), [])
  | .neq => some (.bool (a != b), [])
  | .lss => some (.bool (decide (a < b)), [])
  | .leq => some (.bool (decide (a ≤ b)), [])
  | .gtr => some (.bool (decide (b < a)), [])
  | .geq => some (.bool (decide (b ≤ a)), [])
  | _ => none

def exStr (op : BinOp) (a b : List UInt8) : Option (DV × List Bool) :=
  match op with
  | .add => some (.str (a ++ b), [decide (a.length + b.length ≤ 2 ^ 62)])
  | .eql => some (.bool (a == b), [])
  | .neq => some (.bool (!(a == b)), [])
  | .lss => some (.bool (Op.bytesLess a b), [])
  | .leq => some (.bool (Op.bytesLess a b || a == b), [])
  | .gtr => some (.bool (!(Op.bytesLess a b || a == b)), [])
  | .geq => some (.bool (!(Op.bytesLess a b)), [])
  | _ => none

def isShift : BinOp → Bool
  | .shl => true
  | .shr => true
  | _ => false

def eqOp (op : BinOp) (b : Bool) : Option RV :=
  match op with
  | .eql => some (.d (.bool b))
  | .neq => some (.d (.bool (!b)))
  | _ => none

def exBin (E : Env) (op : BinOp) (t : Nat) (x y : RV) : Option Res :=
  match x, y with
  | .d (.int k a), .d (.int k' b) =>
    bif isShift op then
      match op with
      | .shl => some { val := .d (.int k (k.wrap (a * 2 ^ (min b.toNat k.bits)))), conds := [decide (0 ≤ b)] }
      | _ => some { val := .d (.int k (a.fdiv (2 ^ (min b.toNat k.bits)))), conds := [decide (0 ≤ b)] }
    else bif kindEq k k' then match exInt op k a b with
      | some (v, c) => some { val := .d v, conds := c }
      | none => none
    else none
  | .d (.str a), .d (.str b) => match exStr op a b with
    | some (v, c) => some { val := .d v, conds := c }
    | none => none
  | .d (.bool a), .d (.bool b) => match E.und t, eqOp op (a == b) with
    | some .bool, some v => some { val := v }
    | _, _ => none
  | .d (.agg a), .d (.agg b) => match E.und t with
    | some (.struct fs) => match eqFieldsD E 0 fs.toList a b with
      | some r => bif E.eqOk t then
          match eqOp op r with
          | some v => some { val := v }
          | none => none
        else none
      | none => none
    | _ => none
  | .d .nilp, .d .nilp => match E.und t, eqOp op true with
    | some (.pointer _), some v => some { val := v }
    | _, _ => none
  | p, .d .nilp => bif isPtr p then match E.und t, eqOp op false with
    | some (.pointer _), some v => some { val := v }
    | _, _ => none else none
  | .d .nilp, p => bif isPtr p then match E.und t, eqOp op false with
    | some (.pointer _), some v => some { val := v }
    | _, _ => none else none
  | .map _, .d .nilm => match E.und t, eqOp op false with
    | some (.map _ _), some v => some { val := v }
    | _, _ => none
  | .d .nilm, .d .nilm => match E.und t, eqOp op true with
    | some (.map _ _), some v => some { val := v }
    | _, _ => none
  | _, _ => none

/-- Is a slice nil? -/
def isNilSl (O : Tab) : RV → Option Bool
  | .d (.lst sz els full) => match els with
    | [] => bif Nat.beq sz 0 && full then some true else none
    | _ :: _ => some false
  | .own i _ => match O i with
    | some (.arr _ _ (_ :: _)) => some false
    | some (.frz _ (_ :: _)) => some false
    | _ => none
  | .sub _ _ _ (_ + 1) => some false
  | _ => none

def exNilCmp (E : Env) (O : Tab) (op : BinOp) (t : Nat) (x : RV) : Option Res :=
  match E.und t, isNilSl O x with
  | some (.slice _), some b => match eqOp op b with
    | some v => some { val := v }
    | none => none
  | _, _ => none

def exBinO (E : Env) (O : Tab) (op : BinOp) (t : Nat) (x y : RV) : Option Res :=
  match y with
  | .d (.lst 0 [] true) => exNilCmp E O op t x
  | _ => exBin E op t x y

def exUn (op : UnOp) (x : RV) : Option Res :=
  match op, x with
  | .not, .d (.bool b) => some { val := .d (.bool (!b)) }
  | .neg, .d (.int k n) => some { val := .d (.int k (k.wrap (0 - n))) }
  | .xor, .d (.int k n) => some { val := .d (.int k (bits .xor k (if k.signed then -1 else k.max) n)) }
  | _, _ => none

/-- A slice's elements, wherever it lies. -/
def elsOf (O : Tab) : RV → Option (Nat × List DV × List Bool)
  | .d (.lst sz els _) => some (sz, els, [])
  | .own i sz' => match O i with
    | some (.arr _ sz els) => bif Nat.beq sz sz' then some (sz, els, []) else none
    | some (.frz sz els) => bif Nat.beq sz sz' then some (sz, els, []) else none
    | _ => none
  | .sub i sz' off len => match O i with
    | some (.arr _ sz els) => bif Nat.beq sz sz' then some (sz, (els.drop off).take len, [decide (off + len ≤ els.length)]) else none
    | some (.frz sz els) => bif Nat.beq sz sz' then some (sz, (els.drop off).take len, [decide (off + len ≤ els.length)]) else none
    | _ => none
  | _ => none

def u8s (s : List UInt8) : List DV := s.map fun b => .int .u8 b.toNat

def DV.isByte : DV → Bool
  | .int .u8 _ => true
  | _ => false

def isU8 : Option TypeDesc → Bool
  | some (.int .u8) => true
  | _ => false

def exConv (E : Env) (O : Tab) (sl src dst : Nat) (x : RV) : Option Res :=
  match E.und src, E.und dst, x with
  | some _, some (.int k), .d (.int _ n) => some { val := .d (.int k (k.wrap n)) }
  | some _, some .string, .d (.str s) => some { val := .d (.str s) }
  | some _, some (.slice e), .d (.str s) => bif isU8 (E.und e) then
      match O sl, E.size e with
      | none, some 1 => some { val := .own sl 1, upd := [(sl, .arr e 1 (u8s s))] }
      | _, _ => none
    else none
  | some (.slice e), some .string, v => bif isU8 (E.und e) then
      match elsOf O v with
      | some (sz, els, c) => bif Nat.beq sz 1 || els.isEmpty then some { val := .d (.str (els.map DV.byte)), conds := c ++ [els.all DV.isByte] } else none
      | none => none
    else none
  | _, _, _ => none

def intOf' : Option RV → Option (Option Int)
  | none => some none
  | some (.d (.int _ n)) => some (some n)
  | _ => none

/-- The bounds of a slice expression: what must hold. -/
def bnds (len : Nat) : Option Int → Option Int → List Bool
  | none, none => []
  | none, some h => [decide (0 ≤ h ∧ h ≤ (len : Int))]
  | some l, none => [decide (0 ≤ l ∧ l ≤ (len : Int))]
  | some l, some h => [decide (0 ≤ h ∧ h ≤ (len : Int)), decide (0 ≤ l ∧ l ≤ ((h.toNat : Nat) : Int))]

def cutL {α : Type} (s : List α) (lo hi : Option Int) : List α :=
  match lo, hi with
  | none, none => s
  | some l, none => s.drop l.toNat
  | none, some h => s.take h.toNat
  | some l, some h => (s.take h.toNat).drop l.toNat

def loOf : Option Int → Nat
  | none => 0
  | some l => l.toNat
def hiOf (len : Nat) : Option Int → Nat
  | none => len
  | some h => h.toNat

def exSlice (E : Env) (O : Tab) (t : Nat) (x : RV) (lo hi mx : Option RV) : Option Res :=
  match intOf' lo, intOf' hi, mx with
  | some l, some h, none =>
    match E.und t, x with
    | some .string, .d (.str s) => some { val := .d (.str (cutL s l h)), conds := bnds s.length l h }
    | some (.slice e), .d (.lst sz els full) => match E.size e with
      | some z => bif Nat.beq sz z || els.isEmpty then some { val := .d (.lst sz (cutL els l h) (match h with | none => full | some _ => false)), conds := bnds els.length l h } else none
      | none => none
    | some (.slice e), .own i sz => match O i, E.size e with
      | some (.arr _ sz' els), some z => bif Nat.beq sz' sz && Nat.beq sz z then some { val := .sub i sz (loOf l) (hiOf els.length h - loOf l), conds := bnds els.length l h } else none
      | some (.frz sz' els), some z => bif Nat.beq sz' sz && Nat.beq sz z then some { val := .sub i sz (loOf l) (hiOf els.length h - loOf l), conds := bnds els.length l h } else none
      | _, _ => none
    | some (.slice e), .sub i sz off len => match E.size e with
      | some z => bif Nat.beq sz z then some { val := .sub i sz (off + loOf l) (hiOf len h - loOf l), conds := bnds len l h } else none
      | none => none
    | some (.array n e), .ptr i off => match O i, E.size e with
      | some (.arr _ sz els), some z => bif Nat.beq sz z && Nat.beq off 0 then some { val := .sub i sz (loOf l) (hiOf n h - loOf l), conds := decide (els.length = n) :: bnds n l h } else none
      | _, _ => none
    | _, _ => none
  | some none, some (some h), some (.d (.int _ m)) =>
    match E.und t, x with
    | some (.slice e), .d (.lst sz els full) => match E.size e with
      | some z => bif (Nat.beq sz z || els.isEmpty) && (Nat.ble 1 sz || full) then some { val := .d (.lst sz (els.take h.toNat) (decide (h = m))), conds := [decide (0 ≤ h ∧ h ≤ m), decide (m ≤ els.length)] } else none
      | none => none
    | _, _ => none
  | _, _, _ => none

def exFieldAddr (E : Env) (t : Nat) (x : RV) (f : Nat) : Option Res :=
  match E.und t with
  | some (.struct fs) => match fieldSpot E fs f with
    | some (off, n) => bif Nat.ble 1 n then
        match x with
        | .ptr i o => some { val := .ptr i (o + off) }
        | .eptr i sz idx o => some { val := .eptr i sz idx (o + off) }
        | .iptr y o => some { val := .iptr y (o + off) }
        | _ => none
      else none
    | none => none
  | _ => none

def exField (E : Env) (t : Nat) (x : RV) (f : Nat) : Option Res :=
  match E.und t with
  | some (.struct fs) => match fs[f]? with
    | some fl => match E.size fl.type with
      | some z => match x with
        | .d (.agg cs) => match cut E fl.type z cs fl.offset with
          | some y => some { val := .d y }
          | none => none
        | .agg cs => bif Nat.ble (fl.offset + z) cs.length then
            bif E.isAgg fl.type then some { val := mkAgg ((cs.drop fl.offset).take z) } else bif Nat.beq z 1 then some { val := cs.getD fl.offset .bot } else none
          else none
        | _ => none
      | none => none
    | none => none
  | _ => none

def exIndexAddr (E : Env) (O : Tab) (t : Nat) (x i : RV) : Option Res :=
  match i with
  | .d (.int _ n) =>
    match E.und t, x with
    | some (.slice e), .d (.lst sz els _) => match E.size e with
      | some z => bif Nat.beq sz z then some { val := .iptr (els.getD n.toNat .nilp) 0, conds := [decide (0 ≤ n ∧ n < (els.length : Int))] } else none
      | none => none
    | some (.slice e), .own k sz => match O k, E.size e with
      | some (.arr _ sz' els), some z => bif Nat.beq sz' sz && Nat.beq sz z then some { val := .eptr k sz n.toNat 0, conds := [decide (0 ≤ n ∧ n < (els.length : Int))] } else none
      | some (.frz sz' els), some z => bif Nat.beq sz' sz && Nat.beq sz z then some { val := .eptr k sz n.toNat 0, conds := [decide (0 ≤ n ∧ n < (els.length : Int))] } else none
      | _, _ => none
    | some (.slice e), .sub k sz off len => match E.size e with
      | some z => bif Nat.beq sz z then some { val := .eptr k sz (off + n.toNat) 0, conds := [decide (0 ≤ n ∧ n < (len : Int))] } else none
      | none => none
    | some (.array len e), .ptr k off => match O k, E.size e with
      | some (.arr _ sz _), some z => bif Nat.beq sz z && Nat.beq off 0 then some { val := .eptr k sz n.toNat 0, conds := [decide (0 ≤ n ∧ n < (len : Int))] } else none
      | some (.box _ _), some z => some { val := .ptr k (off + n.toNat * z), conds := [decide (0 ≤ n ∧ n < (len : Int))] }
      | _, _ => none
    | _, _ => none
  | _ => none

def exIndex (E : Env) (t : Nat) (x i : RV) : Option Res :=
  match i with
  | .d (.int _ n) =>
    match E.und t, x with
    | some .string, .d (.str s) => some { val := .d (.int .u8 ((s.getD n.toNat 0).toNat : Int)), conds := [decide (0 ≤ n ∧ n < (s.length : Int))] }
    | some (.array len e), .d (.agg cs) => match E.size e with
      | some z => match cut E e z cs (n.toNat * z) with
        | some y => some { val := .d y, conds := [decide (0 ≤ n ∧ n < (len : Int))] }
        | none => none
      | none => none
    | some (.array len e), .agg cs => match E.size e with
      | some z => bif Nat.ble (n.toNat * z + z) cs.length then
          bif E.isAgg e then some { val := mkAgg ((cs.drop (n.toNat * z)).take z), conds := [decide (0 ≤ n ∧ n < (len : Int))] }
          else bif Nat.beq z 1 then some { val := cs.getD (n.toNat * z) .bot, conds := [decide (0 ≤ n ∧ n < (len : Int))] } else none
        else none
      | none => none
    | _, _ => none
  | _ => none

def exExtract (x : RV) (i : Nat) : Option Res :=
  match x with
  | .tup vs => match vs[i]? with
    | some v => some { val := v }
    | none => none
  | .d (.tup vs) => match vs[i]? with
    | some v => some { val := .d v }
    | none => none
  | _ => none

def exLen (E : Env) (O : Tab) (t : Nat) (x : RV) : Option Res :=
  match E.und t, x with
  | some .string, .d (.str s) => some { val := .d (.int .i64 (s.length : Int)) }
  | some (.slice _), .d (.lst _ els _) => some { val := .d (.int .i64 (els.length : Int)) }
  | some (.slice _), .own i _ => match O i with
    | some (.arr _ _ els) => some { val := .d (.int .i64 (els.length : Int)) }
    | some (.frz _ els) => some { val := .d (.int .i64 (els.length : Int)) }
    | _ => none
  | some (.slice _), .sub _ _ _ len => some { val := .d (.int .i64 (len : Int)) }
  | some (.array n _), _ => some { val := .d (.int .i64 (n : Int)) }
  | some (.map _ _), .d .nilm => some { val := .d (.int .i64 0) }
  | some (.map _ _), .map i => match O i with
    | some (.map es) => some { val := .d (.int .i64 (es.length : Int)) }
    | _ => none
  | _, _ => none

def srcEls (O : Tab) (x : RV) : Option (Nat × List DV × List Bool) :=
  match x with
  | .d (.str s) => some (1, u8s s, [])
  | v => elsOf O v

def zeroOk (E : Env) (e z : Nat) : Bool :=
  match E.zero e with
  | some x => Nat.beq x.cells.length z
  | none => false

def exAppend (E : Env) (O : Tab) (sl t : Nat) (s x : RV) : Option Res :=
  match E.und t with
  | some (.slice e) => match E.size e, E.bytes e, srcEls O x with
    | some z, some by_, some (sx, xs, cx) =>
      bif (Nat.beq sx z || xs.isEmpty) && Nat.ble 1 z && Nat.ble 1 by_ && zeroOk E e z then
        match s with
        | .d (.lst sz els true) =>
          bif Nat.beq sz z || els.isEmpty then
            match O sl with
            | none => some { val := .own sl z, upd := [(sl, .arr e z (els ++ xs))], conds := cx ++ [decide ((els.length + xs.length) * by_ ≤ 2 ^ 38), els.isEmpty || !xs.isEmpty] }
            | some _ => none
          else none
        | .own i sz => bif Nat.beq sz z then match O i with
            | some (.arr ty sz' els) => bif Nat.beq sz' sz && Nat.beq ty e then
                match O (bif Nat.beq i sl then sl + 1 else sl) with
                | none => some { val := .own (bif Nat.beq i sl then sl + 1 else sl) z, upd := [(i, .gone), (bif Nat.beq i sl then sl + 1 else sl, .arr e z (els ++ xs))], conds := cx ++ [decide ((els.length + xs.length) * by_ ≤ 2 ^ 38)] }
                | some _ => none
              else none
            | _ => none else none
        | .sub i sz off len => bif Nat.beq sz z && Nat.beq off 0 then match O i with
            | some (.arr ty sz' els) => bif Nat.beq sz' sz && Nat.beq ty e then
                match O (bif Nat.beq i sl then sl + 1 else sl) with
                | none => some { val := .own (bif Nat.beq i sl then sl + 1 else sl) z, upd := [(i, .gone), (bif Nat.beq i sl then sl + 1 else sl, .arr e z (els.take len ++ xs))], conds := cx ++ [decide ((len + xs.length) * by_ ≤ 2 ^ 38), decide (len ≤ els.length)] }
                | some _ => none
              else none
            | _ => none else none
        | _ => none
      else none
    | _, _, _ => none
  | _ => none

def exMinMax (mn : Bool) (x y : RV) : Option Res :=
  match x, y with
  | .d (.int k a), .d (.int _ b) => some { val := .d (.int k (bif mn then (if b < a then b else a) else (if b > a then b else a))) }
  | _, _ => none

def exMakeSlice (E : Env) (O : Tab) (sl t : Nat) (len cap : RV) : Option Res :=
  match E.und t, len, cap with
  | some (.slice e), .d (.int _ n), .d (.int _ m) => match O sl, E.size e, E.bytes e, E.zero e with
    | none, some z, some by_, some x => bif Nat.ble 1 z && Nat.ble 1 by_ && Nat.beq x.cells.length z && allScal x.cells then
        some { val := .own sl z, upd := [(sl, .arr e z (List.replicate n.toNat x))], conds := [decide (0 ≤ n ∧ n ≤ m), decide ((by_ : Int) * m ≤ 2 ^ 38)] } else none
    | _, _, _, _ => none
  | _, _, _ => none

end Go.Am

/-
  The abstract machine: reading and writing rows of cells, in the model.
-/
namespace Go.Am
set_option linter.unusedSectionVars false
variable {P : Program} [Gl]

theorem add_at (b o i : Nat) : (⟨b, o, none⟩ : Addr).add i = ⟨b, o + i, none⟩ := by unfold Addr.add; split <;> simp_all

theorem cell_at {w : World} {b o : Nat} {c : Array Value} {ty : TypeId} {fz : Nat × Nat} (hb : w.heap[b]? = some (.cells c ty fz)) :
    w.cell? ⟨b, o, none⟩ = c[o]? := by simp [World.cell?, hb]

theorem run_loadCells_at {w : World} {b o n : Nat} {c : Array Value} {ty : TypeId} {fz : Nat × Nat} (hb : w.heap[b]? = some (.cells c ty fz))
    (hn : o + n ≤ c.size) : (loadCells ⟨b, o, none⟩ n).run P w = .ok (c.extract o (o + n)) w := by
  rw [run_loadCells w ⟨b, o, none⟩ n (fun j => c.getD (o + j) undef) (fun j hj => by
    rw [add_at, cell_at hb]
    have : o + j < c.size := by omega
    simp [Array.getD, this])]
  congr 1
  apply Array.ext
  · simp; omega
  · intro i h1 h2
    simp at h1
    have : o + i < c.size := by omega
    simp [Array.getD, this]

/-- The cells with some of them written over. -/
def splA (c : Array Value) (o : Nat) (vs : List Value) : Array Value := (splice c.toList o vs).toArray

theorem splice_length {α : Type} (cs : List α) (o : Nat) (vs : List α) (h : o + vs.length ≤ cs.length) : (splice cs o vs).length = cs.length := by
  simp [splice]; omega
theorem splA_size (c : Array Value) (o : Nat) (vs : List Value) (h : o + vs.length ≤ c.size) : (splA c o vs).size = c.size := by
  simp only [splA, List.size_toArray]; rw [splice_length _ _ _ (by simpa using h)]; simp

theorem splice_get {α : Type} (cs : List α) (o : Nat) (vs : List α) (h : o + vs.length ≤ cs.length) (j : Nat) :
    (splice cs o vs)[j]? = if j < o then cs[j]? else if j < o + vs.length then vs[j - o]? else cs[j]? := by
  unfold splice
  by_cases h1 : j < o
  · rw [if_pos h1, List.append_assoc, List.getElem?_append_left (by simp; omega), List.getElem?_take, if_pos h1]
  · rw [if_neg h1, List.append_assoc, List.getElem?_append_right (by simp; omega)]
    have e : (cs.take o).length = o := by simp; omega
    rw [e]
    by_cases h2 : j < o + vs.length
    · rw [if_pos h2, List.getElem?_append_left (by omega)]
    · rw [if_neg h2, List.getElem?_append_right (by omega), List.getElem?_drop]
      congr 1; omega

theorem splA_get (c : Array Value) (o : Nat) (vs : List Value) (h : o + vs.length ≤ c.size) (j : Nat) :
    (splA c o vs)[j]? = if j < o then c[j]? else if j < o + vs.length then vs[j - o]? else c[j]? := by
  simp only [splA, List.getElem?_toArray]
  rw [splice_get _ _ _ (by simpa using h)]
  simp

theorem splice_cons {α : Type} (cs : List α) (o : Nat) (v : α) (r : List α) (h : o + (v :: r).length ≤ cs.length) :
    splice (cs.set o v) (o + 1) r = splice cs o (v :: r) := by
  apply List.ext_getElem?
  intro j
  rw [splice_get _ _ _ (by simp at h ⊢; omega), splice_get _ _ _ h]
  simp only [List.length_cons] at h ⊢
  by_cases h1 : j < o
  · rw [if_pos (by omega), if_pos h1, List.getElem?_set_ne (by omega)]
  · by_cases h2 : j = o
    · subst h2
      rw [if_pos (by omega), if_neg (by omega), if_pos (by omega), List.getElem?_set_self (by omega)]
      simp
    · rw [if_neg (by omega), if_neg h1]
      by_cases h3 : j < o + 1 + r.length
      · rw [if_pos h3, if_pos (by omega)]
        have : j - o = (j - (o + 1)) + 1 := by omega
        rw [this]; rfl
      · rw [if_neg h3, if_neg (by omega), List.getElem?_set_ne (by omega)]

theorem oneCell_iff (v : Value) : v.oneCell' = v.oneCell := by cases v <;> rfl

def World.row (w : World) (b : Nat) (o : Obj) : World := { w with heap := w.heap.setIfInBounds b o }

theorem row_self {w : World} {b : Nat} {o : Obj} (h : w.heap[b]? = some o) : World.row w b o = w := by
  unfold World.row
  have : w.heap.setIfInBounds b o = w.heap := by
    apply Array.ext_getElem?
    intro j
    rw [Array.getElem?_setIfInBounds]
    split
    · rename_i e; subst e
      have hb : b < w.heap.size := by
        rcases Nat.lt_or_ge b w.heap.size with h' | h'
        · exact h'
        · rw [Array.getElem?_eq_none h'] at h; simp at h
      have hg : w.heap[b] = o := by rw [Array.getElem?_eq_getElem hb] at h; simpa using h
      simp [hb, hg]
    · rfl
  rw [this]

theorem row_row (w : World) (b : Nat) (o o' : Obj) : World.row (World.row w b o) b o' = World.row w b o' := by
  unfold World.row
  simp only [World.mk.injEq, and_true]
  apply Array.ext_getElem?
  intro j
  simp only [Array.getElem?_setIfInBounds, Array.size_setIfInBounds]
  split <;> simp_all

theorem row_heap {w : World} {b : Nat} {o o0 : Obj} (h : w.heap[b]? = some o0) : (World.row w b o).heap[b]? = some o := by
  have hb : b < w.heap.size := by
    rcases Nat.lt_or_ge b w.heap.size with h' | h'
    · exact h'
    · rw [Array.getElem?_eq_none h'] at h; simp at h
  simp [World.row, hb]

theorem row_heap_ne (w : World) {b b' : Nat} (o : Obj) (h : b' ≠ b) : (World.row w b o).heap[b']? = w.heap[b']? := by
  simp only [World.row, Array.getElem?_setIfInBounds]
  rw [if_neg (by omega)]

theorem setCell_row {w : World} {b o : Nat} {c : Array Value} {ty : TypeId} {fz : Nat × Nat} (hb : w.heap[b]? = some (.cells c ty fz)) (v : Value) :
    w.setCell ⟨b, o, none⟩ v = World.row w b (.cells (c.setIfInBounds o v) ty fz) := by
  unfold World.setCell World.row
  simp only [World.mk.injEq, and_true]
  apply Array.ext_getElem?
  intro j
  rw [Array.getElem?_modify, Array.getElem?_setIfInBounds]
  by_cases e : b = j
  · subst e
    have hlt : b < w.heap.size := by
      rcases Nat.lt_or_ge b w.heap.size with h' | h'
      · exact h'
      · rw [Array.getElem?_eq_none h'] at hb; simp at hb
    have hg : w.heap[b] = .cells c ty fz := by rw [Array.getElem?_eq_getElem hlt] at hb; simpa using hb
    simp [hlt, hg]
  · simp [e]

theorem run_storeCells_any (b o : Nat) (ty : TypeId) (fz : Nat × Nat) : ∀ (vs : List Value) (i : Nat) (c : Array Value) (w : World), w.heap[b]? = some (.cells c ty fz) →
    FzOk fz c.size → o + i + vs.length ≤ c.size → (∀ v ∈ vs, v.oneCell = true) →
    (storeCells ⟨b, o, none⟩ vs i).run P w = .ok () (World.row w b (.cells (splA c (o + i) vs) ty fz))
  | [], i, c, w, hb, _, _, _ => by
    simp only [storeCells, Sem.run_pure]
    rw [row_self]
    rw [hb]; simp [splA, splice]
  | v :: r, i, c, w, hb, hz, hl, h1 => by
    have hi : o + i < c.size := by simp at hl; omega
    have hfro : w.frozen? ⟨b, o + i, none⟩ = false := by
      have := hz (o + i) hi
      simp only [World.frozen?, hb, Bool.and_eq_false_iff, decide_eq_false_iff_not]
      omega
    have hst : (store ((⟨b, o, none⟩ : Addr).add i) v).run P w = .ok () (World.row w b (.cells (c.setIfInBounds (o + i) v) ty fz)) := by
      rw [add_at, run_store P w _ v _ (by rw [oneCell_iff]; exact h1 v (by simp)), cell_at hb]
      simp [hi, hfro, setCell_row hb]
    have ih := run_storeCells_any b o ty fz r (i + 1) (c.setIfInBounds (o + i) v) (World.row w b (.cells (c.setIfInBounds (o + i) v) ty fz)) (row_heap hb) (by simpa using hz) (by simp at hl ⊢; omega) (fun x hx => h1 x (by simp [hx]))
    simp only [storeCells, Sem.run_bind, hst, Result.andThen_ok, ih, row_row]
    congr 3
    unfold splA
    rw [Array.toList_setIfInBounds, ← Nat.add_assoc]
    rw [splice_cons _ _ _ _ (by simpa using hl)]

theorem run_isAgg {E : Env} (hE : E = Env.of P) {t : TypeId} {d : TypeDesc} (h : P.underlying t = some d) (w : World) :
    (isAgg t).run P w = .ok (E.isAgg t) w := by
  subst hE
  have e : (Env.of P).isAgg t = (match d with | .struct _ | .array _ _ => true | _ => false) := by
    simp only [Env.isAgg, Env.of, h]; cases d <;> rfl
  rw [e]
  simp only [isAgg, Sem.run_bind, run_underlying h, Result.andThen_ok]
  cases d <;> rfl

theorem size_of {t z : Nat} (h : (Env.of P).size t = some z) : ∃ i d, P.info? t = some i ∧ i.size = z ∧ P.underlying t = some d := by
  simp only [Env.of] at h
  cases e : P.info? t with
  | none => rw [e] at h; cases e2 : P.underlying t <;> rw [e2] at h <;> simp at h
  | some i =>
    cases e2 : P.underlying t with
    | none => rw [e, e2] at h; simp at h
    | some d => rw [e, e2] at h; exact ⟨i, d, rfl, by simpa using h, rfl⟩

theorem run_sizeOf' {t z : Nat} (h : (Env.of P).size t = some z) (w : World) : (sizeOf t).run P w = .ok z w := by
  obtain ⟨i, d, hi, rfl, _⟩ := size_of h
  simp [sizeOf, typeInfo, hi]

theorem run_isAgg' {t z : Nat} (h : (Env.of P).size t = some z) (w : World) : (isAgg t).run P w = .ok ((Env.of P).isAgg t) w := by
  obtain ⟨i, d, hi, rfl, hd⟩ := size_of h
  exact run_isAgg rfl hd w

theorem run_und {t : Nat} {d : TypeDesc} (h : (Env.of P).und t = some d) (w : World) : (underlying t).run P w = .ok d w := run_underlying h w

theorem run_loadVar_at {w : World} {t z b o : Nat} {c : Array Value} {ty : TypeId} {fz : Nat × Nat} (hz : (Env.of P).size t = some z) (hb : w.heap[b]? = some (.cells c ty fz))
    (hn : o + z ≤ c.size) (h1 : (Env.of P).isAgg t = false → z = 1) :
    (loadVar t ⟨b, o, none⟩).run P w = .ok (if (Env.of P).isAgg t then .agg (c.extract o (o + z)) else c.getD o undef) w := by
  simp only [loadVar, Sem.run_bind, run_isAgg' hz, Result.andThen_ok]
  cases e : (Env.of P).isAgg t with
  | true => simp [run_sizeOf' hz, run_loadCells_at hb hn]
  | false =>
    have := h1 e; subst this
    have : o < c.size := by omega
    simp [cell_at hb, this, Array.getD]

theorem run_storeVar_at {w : World} {t z b o : Nat} {c : Array Value} {ty : TypeId} {fz : Nat × Nat} {v : Value} (hz : (Env.of P).size t = some z) (hb : w.heap[b]? = some (.cells c ty fz))
    (hf : FzOk fz c.size) (hv : v.cells.size = z) (hn : o + z ≤ c.size) (h1 : ∀ x ∈ v.cells, x.oneCell = true) :
    (storeVar t ⟨b, o, none⟩ v).run P w = .ok () (World.row w b (.cells (splA c o v.cells.toList) ty fz)) := by
  have := run_storeCells_any (P := P) b o ty fz v.cells.toList 0 c w hb hf (by simpa [hv] using hn) (by simpa using h1)
  simp only [storeVar, Sem.run_bind, run_sizeOf' hz, Result.andThen_ok, hv, ne_eq, not_true_eq_false, if_false]
  simpa using this

end Go.Am

/-
  The abstract machine: how a state goes on when an object, or a register, becomes another.
-/
namespace Go.Am
set_option linter.unusedSectionVars false
variable {P : Program} [Gl]

def setT (O : Tab) (i : Nat) (p : Option PObj) : Tab := fun j => if j = i then p else O j
def updO (O : Tab) (u : List (Nat × PObj)) : Tab := u.foldl (fun O p => setT O p.1 (some p.2)) O
def setR (R : Nat → RV) (d : Nat) (v : RV) : Nat → RV := fun t => if t = d then v else R t

theorem setT_same (O : Tab) (i : Nat) (p : Option PObj) : setT O i p i = p := by simp [setT]
theorem setT_ne (O : Tab) {i j : Nat} (p : Option PObj) (h : j ≠ i) : setT O i p j = O j := by simp [setT, h]

theorem getD_put (a : Act) (d t : Nat) (v : Value) : (a.put (some d) v).tmps.getD t undef = if t = d ∧ d < a.tmps.size then v else a.tmps.getD t undef := by
  simp only [Act.put, Array.getD_eq_getD_getElem?, Array.getElem?_setIfInBounds]
  by_cases h : d = t
  · subst h
    by_cases h2 : d < a.tmps.size
    · simp [h2]
    · simp [h2]
  · have : ¬ t = d := fun e => h e.symm
    simp [h, this]

theorem FRel.put {κ : Kap} {φ : Phi} {w : World} {s : SSt} {a : Act} (F : FRel κ φ w s a) {d : Nat} {rv : RV} {v : Value} (hd : d < s.n)
    (hr : RVR κ φ s.O w.heap rv v) : FRel κ φ w { s with R := setR s.R d rv } (a.put (some d) v) where
  regs := fun t => by
    rw [getD_put]
    by_cases h : t = d
    · subst h; simp only [setR, if_true]; rw [if_pos ⟨trivial, by rw [F.n]; exact hd⟩]; exact hr
    · rw [if_neg (fun e => h e.1)]; simp only [setR, if_neg h]; exact F.regs t
  objs := F.objs
  bnd := F.bnd
  n := by simpa [Act.put] using F.n
  df := F.df

theorem FRel.putNone {κ : Kap} {φ : Phi} {w : World} {s : SSt} {a : Act} (F : FRel κ φ w s a) (v : Value) : FRel κ φ w s (a.put none v) := F

/-- Less is said of the registers. -/
theorem FRel.weak {κ : Kap} {φ : Phi} {w : World} {s : SSt} {a : Act} (F : FRel κ φ w s a) {R' : Nat → RV}
    (h : ∀ t, ∀ v, RVR κ φ s.O w.heap (s.R t) v → RVR κ φ s.O w.heap (R' t) v) : FRel κ φ w { s with R := R' } a :=
  { F with regs := fun t => h t _ (F.regs t) }

/-- One object becomes another (or comes); blocks of objects that are gone may go with it. -/
theorem FRel.upd1 {κ : Kap} {φ : Phi} {w : World} {s : SSt} {a : Act} (F : FRel κ φ w s a) {i : Nat} {p : PObj} {κ' : Kap} {φ' : Phi} {w' : World}
    (hsz : w.heap.size ≤ w'.heap.size)
    (himm : ∀ b, κ b = .imm → κ' b = .imm)
    (hown : ∀ b j, j ≠ i → s.O j ≠ some .gone → κ b = .own j → κ' b = .own j)
    (hoth : ∀ b, b < w.heap.size → κ b = .oth → κ' b = .oth)
    (hh : ∀ b, b < w.heap.size → κ b ≠ .own i → (∀ j, κ b = .own j → s.O j ≠ some .gone) → w'.heap[b]? = w.heap[b]?)
    (hφ : ∀ j, j ≠ i → φ' j = φ j) (hφi : φ i ≠ .un → φ' i = φ i)
    (hshp : ∀ (b : Nat) (c : Array Value) (ty : TypeId) (fz : Nat × Nat), w.heap[b]? = some (.cells c ty fz) → ∃ c' fz', w'.heap[b]? = some (.cells c' ty fz') ∧ c'.size = c.size)
    (hlen : φ i ≠ .un → ∀ n, PObj.len? (some p) = some n → PObj.len? (s.O i) = some n)
    (hbnd : ∀ b, κ' b ≠ .oth → b < w'.heap.size)
    (hnew : Mono κ φ s.O w.heap κ' φ' (setT s.O i (some p)) w'.heap → OR κ' φ' (setT s.O i (some p)) w'.heap i (some p))
    (hso : w'.os = w.os ∧ w'.output = w.output := by exact ⟨rfl, rfl⟩) :
    FRel κ' φ' w' { s with O := setT s.O i (some p) } a ∧ Mono κ φ s.O w.heap κ' φ' (setT s.O i (some p)) w'.heap ∧ Fr κ w κ' w' := by
  have himm' : ∀ b, κ b = .imm → κ' b = .imm ∧ w'.heap[b]? = w.heap[b]? := fun b hb =>
    ⟨himm b hb, hh b (F.bnd.lt b (by rw [hb]; simp)) (by rw [hb]; simp) (by rw [hb]; simp)⟩
  have M : Mono κ φ s.O w.heap κ' φ' (setT s.O i (some p)) w'.heap :=
    { imm := himm'
      shp := hshp
      phi := fun j hj => by
        by_cases e : j = i
        · subst e; exact hφi hj
        · exact hφ j e
      len := fun j n hj hn => by
        by_cases e : j = i
        · subst e; rw [setT_same] at hn; exact hlen hj n hn
        · rw [setT_ne _ _ e] at hn; exact hn }
  have hfr : Fr κ w κ' w' := ⟨hsz, himm', fun b hb ho => ⟨hoth b hb ho, hh b hb (by rw [ho]; simp) (by rw [ho]; simp)⟩, hshp, hso.1, hso.2⟩
  refine ⟨⟨fun t => (F.regs t).mono M, fun j => ?_, F.bnd.step hfr hbnd, F.n, F.df.mono M⟩, M, hfr⟩
  by_cases e : j = i
  · subst e; simp only [setT_same]; exact hnew M
  · simp only [setT_ne _ _ e]
    by_cases hg : s.O j = some .gone
    · rw [hg]; exact trivial
    · refine (F.objs j).mono M (fun b hb => ⟨hown b j e hg hb, ?_⟩) (hφ j e)
      exact hh b (F.bnd.lt b (by rw [hb]; simp)) (by rw [hb]; simpa using e) (fun k hk => by rw [hb] at hk; injection hk with hk; subst hk; exact hg)

def setK (κ : Kap) (b : Nat) (c : Cls) : Kap := fun x => if x = b then c else κ x
def setP (φ : Phi) (i : Nat) (b : Blk) : Phi := fun j => if j = i then b else φ j
theorem setK_same (κ : Kap) (b : Nat) (c : Cls) : setK κ b c b = c := by simp [setK]
theorem setK_ne (κ : Kap) {b x : Nat} (c : Cls) (h : x ≠ b) : setK κ b c x = κ x := by simp [setK, h]
theorem setP_same (φ : Phi) (i : Nat) (b : Blk) : setP φ i b i = b := by simp [setP]
theorem setP_ne (φ : Phi) {i j : Nat} (b : Blk) (h : j ≠ i) : setP φ i b j = φ j := by simp [setP, h]

theorem heap_push_lt {h : Heap} {o : Obj} {b : Nat} (hb : b < h.size) : (h.push o)[b]? = h[b]? := by
  rw [Array.getElem?_push_lt hb]; simp [hb]
theorem heap_push_eq (h : Heap) (o : Obj) : (h.push o)[h.size]? = some o := by simp

theorem lt_of_get {h : Heap} {b : Nat} {o : Obj} (e : h[b]? = some o) : b < h.size := by
  rcases Nat.lt_or_ge b h.size with h' | h'
  · exact h'
  · rw [Array.getElem?_eq_none h'] at e; simp at e

/-- A new object in a new block. -/
theorem FRel.alloc {κ : Kap} {φ : Phi} {w : World} {s : SSt} {a : Act} (F : FRel κ φ w s a) {i : Nat} {p : PObj} {o : Obj} {w' : World}
    (hw : w'.heap = w.heap.push o) (hi : s.O i = none)
    (hnew : Mono κ φ s.O w.heap (setK κ w.heap.size (.own i)) (setP φ i (.at w.heap.size)) (setT s.O i (some p)) w'.heap →
      OR (setK κ w.heap.size (.own i)) (setP φ i (.at w.heap.size)) (setT s.O i (some p)) w'.heap i (some p))
    (hso : w'.os = w.os ∧ w'.output = w.output := by exact ⟨rfl, rfl⟩) :
    FRel (setK κ w.heap.size (.own i)) (setP φ i (.at w.heap.size)) w' { s with O := setT s.O i (some p) } a ∧
      Mono κ φ s.O w.heap (setK κ w.heap.size (.own i)) (setP φ i (.at w.heap.size)) (setT s.O i (some p)) w'.heap ∧
      Fr κ w (setK κ w.heap.size (.own i)) w' := by
  have hun : φ i = .un := by have := F.objs i; rw [hi] at this; exact this
  refine F.upd1 (by rw [hw]; simp) (fun b hb => ?_) (fun b j _ _ hb => ?_) (fun b hb ho => ?_) (fun b hb _ _ => ?_) (fun j hj => setP_ne _ _ hj) (fun h => absurd hun h) (fun b c ty fz hc => ?_) (fun h => absurd hun h) (fun b hb => ?_) hnew hso
  · rw [setK_ne _ _ (by have := F.bnd.lt b (by rw [hb]; simp); omega)]; exact hb
  · rw [setK_ne _ _ (by have := F.bnd.lt b (by rw [hb]; simp); omega)]; exact hb
  · rw [setK_ne _ _ (by omega)]; exact ho
  · rw [hw, heap_push_lt hb]
  · exact ⟨c, fz, by rw [hw, heap_push_lt (lt_of_get hc)]; exact hc, rfl⟩
  · rw [hw]; simp only [Array.size_push]
    by_cases e : b = w.heap.size
    · omega
    · rw [setK_ne _ _ e] at hb; have := F.bnd.lt b hb; omega

/-- An object's own block gets other cells. -/
theorem FRel.write {κ : Kap} {φ : Phi} {w : World} {s : SSt} {a : Act} (F : FRel κ φ w s a) {i : Nat} {p : PObj} {b : Nat} {o : Obj}
    (hκ : κ b = .own i) (hφi : φ i = .at b)
    (hshp : ∀ (c : Array Value) (ty : TypeId) (fz : Nat × Nat), w.heap[b]? = some (.cells c ty fz) → ∃ c' fz', o = .cells c' ty fz' ∧ c'.size = c.size)
    (hlen : ∀ n, PObj.len? (some p) = some n → PObj.len? (s.O i) = some n)
    (hnew : Mono κ φ s.O w.heap κ φ (setT s.O i (some p)) (World.row w b o).heap → OR κ φ (setT s.O i (some p)) (World.row w b o).heap i (some p)) :
    FRel κ φ (World.row w b o) { s with O := setT s.O i (some p) } a ∧ Mono κ φ s.O w.heap κ φ (setT s.O i (some p)) (World.row w b o).heap ∧ Fr κ w κ (World.row w b o) := by
  have hsz : (World.row w b o).heap.size = w.heap.size := by simp [World.row]
  refine F.upd1 (by omega) (fun _ h => h) (fun _ _ _ _ h => h) (fun _ _ h => h) (fun b' hb' hne _ => ?_) (fun _ _ => rfl) (fun _ => rfl) (fun b' c ty fz hc => ?_) (fun _ => hlen) (fun b' hb' => by rw [hsz]; exact F.bnd.lt b' hb') hnew
  · by_cases e : b' = b
    · subst e; exact absurd hκ hne
    · exact row_heap_ne w o e
  · by_cases e : b' = b
    · subst e
      obtain ⟨c', fz', h1, h2⟩ := hshp c ty fz hc
      exact ⟨c', fz', by rw [row_heap hc, h1], h2⟩
    · exact ⟨c, fz, by rw [row_heap_ne w o e]; exact hc, rfl⟩

/-- Nothing in memory becomes another; an object is seen otherwise (it is frozen, or it is gone). -/
theorem FRel.freeze {κ : Kap} {φ : Phi} {w : World} {s : SSt} {a : Act} (F : FRel κ φ w s a) {i ty sz : Nat} {els : List DV} (hi : s.O i = some (.arr ty sz els)) :
    ∃ κ', FRel κ' φ w { s with O := setT s.O i (some (.frz sz els)) } a ∧ Mono κ φ s.O w.heap κ' φ (setT s.O i (some (.frz sz els))) w.heap ∧ Fr κ w κ' w := by
  have ho := F.objs i
  rw [hi] at ho
  rcases ho with ⟨h1, h2⟩ | ⟨b, c, fz, h1, h2, h3, h4, h5⟩
  · refine ⟨κ, F.upd1 (Nat.le_refl _) (fun _ h => h) (fun _ _ _ _ h => h) (fun _ _ h => h) (fun _ _ _ _ => rfl) (fun _ _ => rfl) (fun _ => rfl) (fun _ c _ fz hc => ⟨c, fz, hc, rfl⟩) (fun _ n hn => ?_) F.bnd.lt (fun _ => .inl ⟨h1, h2⟩)⟩
    rw [hi]; exact hn
  · refine ⟨setK κ b .imm, F.upd1 (Nat.le_refl _) (fun x hx => ?_) (fun x j hj _ hx => ?_) (fun x _ hx => ?_) (fun _ _ _ _ => rfl) (fun _ _ => rfl) (fun _ => rfl) (fun _ c _ fz hc => ⟨c, fz, hc, rfl⟩) (fun _ n hn => ?_) (fun x hx => ?_) (fun M => .inr ⟨b, c, ty, fz, h1, setK_same _ _ _, h3, h5.mono M.imm⟩)⟩
    · by_cases e : x = b
      · subst e; exact setK_same _ _ _
      · rw [setK_ne _ _ e]; exact hx
    · rw [setK_ne _ _ (fun e => by subst e; rw [h2] at hx; injection hx with hx; exact hj hx.symm)]; exact hx
    · rw [setK_ne _ _ (fun e => by subst e; rw [h2] at hx; cases hx)]; exact hx
    · rw [hi]; exact hn
    · by_cases e : x = b
      · subst e; exact lt_of_get h3
      · rw [setK_ne _ _ e] at hx; exact F.bnd.lt x hx

theorem FRel.gone {κ : Kap} {φ : Phi} {w : World} {s : SSt} {a : Act} (F : FRel κ φ w s a) (i : Nat) (_ : φ i ≠ .un) :
    FRel κ φ w { s with O := setT s.O i (some .gone) } a ∧ Mono κ φ s.O w.heap κ φ (setT s.O i (some .gone)) w.heap ∧ Fr κ w κ w :=
  F.upd1 (Nat.le_refl _) (fun _ h => h) (fun _ _ _ _ h => h) (fun _ _ h => h) (fun _ _ _ _ => rfl) (fun _ _ => rfl) (fun _ => rfl) (fun _ c _ fz hc => ⟨c, fz, hc, rfl⟩) (fun _ n hn => by simp [PObj.len?] at hn) F.bnd.lt (fun _ => trivial)

end Go.Am

/-
  The abstract machine: each operation is sound (slices, freezing; loads and stores).
-/
namespace Go.Am
set_option linter.unusedSectionVars false
variable {P : Program} [Gl]

/-- Objects that were there lie where they lay, and arrays are as long as they were, or gone. -/
structure Kp (φ : Phi) (O : Tab) (φ' : Phi) (O' : Tab) : Prop where
  phi : ∀ i, φ i ≠ .un → φ' i = φ i
  len : ∀ i n, φ i ≠ .un → PObj.len? (O' i) = some n → PObj.len? (O i) = some n
theorem Kp.refl (φ : Phi) (O : Tab) : Kp φ O φ O := ⟨fun _ _ => rfl, fun _ _ _ h => h⟩
theorem Kp.trans {φ φ' φ'' : Phi} {O O' O'' : Tab} (a : Kp φ O φ' O') (b : Kp φ' O' φ'' O'') : Kp φ O φ'' O'' where
  phi := fun i hi => by rw [b.phi i (by rw [a.phi i hi]; exact hi), a.phi i hi]
  len := fun i n hi hn => a.len i n hi (b.len i n (by rw [a.phi i hi]; exact hi) hn)
theorem Mono.kp {κ κ' : Kap} {φ φ' : Phi} {O O' : Tab} {h h' : Heap} (M : Mono κ φ O h κ' φ' O' h') : Kp φ O φ' O' := ⟨M.phi, M.len⟩

/-- What an operation of the model's that gives a value comes to. -/
def Out (P : Program) (κ : Kap) (φ : Phi) (w : World) (s : SSt) (a : Act) (val : RV) (upd : List (Nat × PObj)) (m : Sem Value) : Prop :=
  ∃ v w' κ' φ', m.run P w = .ok v w' ∧ FRel κ' φ' w' { s with O := updO s.O upd } a ∧ RVR κ' φ' (updO s.O upd) w'.heap val v ∧ Fr κ w κ' w' ∧ Kp φ s.O φ' (updO s.O upd)

theorem Out.pure {κ : Kap} {φ : Phi} {w : World} {s : SSt} {a : Act} {val : RV} {m : Sem Value} {v : Value} (F : FRel κ φ w s a) (hm : m.run P w = .ok v w)
    (hr : RVR κ φ s.O w.heap val v) : Out P κ φ w s a val [] m :=
  ⟨v, w, κ, φ, hm, F, hr, Fr.refl _ _, Kp.refl _ _⟩

/-- What an operation of the model's that gives none comes to. -/
def OutU (P : Program) (κ : Kap) (φ : Phi) (w : World) (s : SSt) (a : Act) (upd : List (Nat × PObj)) (m : Sem Unit) : Prop :=
  ∃ w' κ' φ', m.run P w = .ok () w' ∧ FRel κ' φ' w' { s with O := updO s.O upd } a ∧ Fr κ w κ' w' ∧ Kp φ s.O φ' (updO s.O upd)

theorem EL.part {κ : Kap} {h : Heap} {c : Array Value} {off sz : Nat} {els : List DV} (e : EL κ h c off sz els) (k n : Nat) :
    EL κ h c (off + k * sz) sz ((els.drop k).take n) ∨ (els.drop k).take n = [] := by
  by_cases hk : (els.drop k).take n = []
  · exact .inr hk
  · left
    obtain ⟨h1, h2, h3⟩ := e
    have hmem : ∀ (i : Nat) (x : DV), ((els.drop k).take n)[i]? = some x → els[k + i]? = some x ∧ i < n := by
      intro i x hx
      rw [List.getElem?_take] at hx
      split at hx
      · rw [List.getElem?_drop] at hx; exact ⟨hx, by assumption⟩
      · simp at hx
    refine ⟨fun x hx => ?_, ?_, fun i x j y v hx hy hv => ?_⟩
    · obtain ⟨i, hi⟩ := List.mem_iff_getElem?.1 hx
      exact h1 x (List.mem_iff_getElem?.2 ⟨_, (hmem i x hi).1⟩)
    · have hl : ((els.drop k).take n).length ≤ els.length - k := by simp; omega
      have hkl : k ≤ els.length := by
        rcases Nat.lt_or_ge els.length k with hh | hh
        · exfalso; apply hk; rw [List.drop_eq_nil_of_le (by omega)]; simp
        · exact hh
      have : (((els.drop k).take n).length + k) * sz ≤ els.length * sz := Nat.mul_le_mul_right _ (by omega)
      rw [Nat.add_mul] at this
      omega
    · refine h3 (k + i) x j y v (hmem i x hx).1 hy ?_
      rw [Nat.add_mul, ← Nat.add_assoc]; exact hv

def SlOk (κ : Kap) (h : Heap) (v : Value) (sz : Nat) (els : List DV) : Prop :=
  ∃ base cap, v = .slice base els.length cap ∧ els.length ≤ cap ∧
    (els = [] ∨ ∃ b off c ty fz, base = some ⟨b, off, none⟩ ∧ h[b]? = some (.cells c ty fz) ∧ EL κ h c off sz els ∧ off + cap * sz ≤ c.size)

theorem DR.slOk {κ : Kap} {h : Heap} {sz : Nat} {els : List DV} {full : Bool} {v : Value} (r : DR κ h (.lst sz els full) v) : SlOk κ h v sz els := by
  cases r with
  | lst0 hf => exact ⟨_, _, rfl, Nat.zero_le _, .inl rfl⟩
  | lst hκ hb hf hc hs hz hr =>
    refine ⟨_, _, rfl, hc, .inr ⟨_, _, _, _, _, rfl, hb, ⟨hz, ?_, hr⟩, hs⟩⟩
    have := Nat.mul_le_mul_right sz hc
    omega

theorem arr_or {κ : Kap} {φ : Phi} {O : Tab} {h : Heap} {i sz : Nat} {els : List DV} (ho : (∃ ty, OR κ φ O h i (some (.arr ty sz els))) ∨ OR κ φ O h i (some (.frz sz els))) :
    (φ i = .nil ∧ els = []) ∨ ∃ b c ty fz, φ i = .at b ∧ h[b]? = some (.cells c ty fz) ∧ EL κ h c 0 sz els := by
  rcases ho with ⟨_, h1 | ⟨b, c, fz, h1, _, h3, _, h5⟩⟩ | (h1 | ⟨b, c, ty, fz, h1, _, h3, h5⟩)
  · exact .inl h1
  · exact .inr ⟨b, c, _, fz, h1, h3, h5⟩
  · exact .inl h1
  · exact .inr ⟨b, c, ty, fz, h1, h3, h5⟩

theorem own_slOk {κ : Kap} {φ : Phi} {O : Tab} {h : Heap} {i sz : Nat} {els : List DV} {v : Value} (hO : (∃ ty, O i = some (.arr ty sz els)) ∨ O i = some (.frz sz els))
    (ho : OR κ φ O h i (O i)) (r : RVR κ φ O h (.own i sz) v) : SlOk κ h v sz els := by
  have ho' : (∃ ty, OR κ φ O h i (some (.arr ty sz els))) ∨ OR κ φ O h i (some (.frz sz els)) := by
    rcases hO with ⟨ty, e⟩ | e <;> rw [e] at ho
    · exact .inl ⟨ty, ho⟩
    · exact .inr ho
  have hl : PObj.len? (O i) = some els.length := by rcases hO with ⟨_, e⟩ | e <;> rw [e] <;> rfl
  cases r with
  | own hφ hb hcap hlc hlen =>
    have := hlen _ hl; subst this
    rcases arr_or ho' with ⟨h1, h2⟩ | ⟨b, c, ty, fz, h1, h3, h5⟩
    · rw [h1] at hφ; cases hφ
    · rw [h1] at hφ; injection hφ with hφ; subst hφ
      rw [h3] at hb; injection hb with hb; injection hb with hb1 hb2 hb3; subst hb1
      exact ⟨_, _, rfl, hlc, .inr ⟨_, _, _, _, _, rfl, h3, h5, by omega⟩⟩
  | ownNil hφ =>
    rcases arr_or ho' with ⟨h1, h2⟩ | ⟨b, c, ty, fz, h1, h3, h5⟩
    · subst h2; exact ⟨_, _, rfl, Nat.zero_le _, .inl rfl⟩
    · rw [h1] at hφ; cases hφ

theorem sub_slOk {κ : Kap} {φ : Phi} {O : Tab} {h : Heap} {i sz off len : Nat} {els : List DV} {v : Value} (hO : (∃ ty, O i = some (.arr ty sz els)) ∨ O i = some (.frz sz els))
    (ho : OR κ φ O h i (O i)) (hle : off + len ≤ els.length) (r : RVR κ φ O h (.sub i sz off len) v) : SlOk κ h v sz ((els.drop off).take len) := by
  have ho' : (∃ ty, OR κ φ O h i (some (.arr ty sz els))) ∨ OR κ φ O h i (some (.frz sz els)) := by
    rcases hO with ⟨ty, e⟩ | e <;> rw [e] at ho
    · exact .inl ⟨ty, ho⟩
    · exact .inr ho
  have hlen : ((els.drop off).take len).length = len := by simp; omega
  cases r with
  | sub hφ hb hcap hlc =>
    rcases arr_or ho' with ⟨h1, h2⟩ | ⟨b, c, ty, fz, h1, h3, h5⟩
    · rw [h1] at hφ; cases hφ
    · rw [h1] at hφ; injection hφ with hφ; subst hφ
      rw [h3] at hb; injection hb with hb; injection hb with hb1 hb2 hb3; subst hb1
      refine ⟨_, _, by rw [hlen], by rw [hlen]; exact hlc, ?_⟩
      rcases h5.part off len with h6 | h6
      · right
        refine ⟨_, _, _, _, _, rfl, h3, by simpa using h6, ?_⟩
        rw [Nat.add_mul] at hcap; omega
      · exact .inl h6
  | sub0 hφ =>
    refine ⟨_, _, by rw [hlen], by rw [hlen]; exact Nat.zero_le _, .inl (by simp)⟩

theorem elsOf_ok {κ : Kap} {φ : Phi} {w : World} {s : SSt} {a : Act} (F : FRel κ φ w s a) {x : RV} {v : Value} {sz : Nat} {els : List DV} {c : List Bool}
    (hx : elsOf s.O x = some (sz, els, c)) (hc : ∀ b ∈ c, b = true) (r : RVR κ φ s.O w.heap x v) : SlOk κ w.heap v sz els := by
  cases x <;> simp only [elsOf] at hx <;> try (simp at hx; done)
  case d x =>
    cases x <;> simp only at hx <;> try (simp at hx; done)
    simp only [Option.some.injEq, Prod.mk.injEq] at hx
    obtain ⟨rfl, rfl, rfl⟩ := hx
    cases r with
    | d hr => exact hr.slOk
  case own i sz' =>
    cases ho : s.O i with
    | none => rw [ho] at hx; simp at hx
    | some p =>
      rw [ho] at hx
      cases p <;> simp only at hx <;> try (simp at hx; done)
      all_goals
        rename_i sz0 els0
        cases hb : Nat.beq sz0 sz' with
        | false => rw [hb] at hx; simp at hx
        | true =>
          have := nbE hb; subst this
          rw [hb] at hx
          simp only [cond_true, Option.some.injEq, Prod.mk.injEq] at hx
          obtain ⟨rfl, rfl, rfl⟩ := hx
          exact own_slOk (by simp [ho]) (F.objs i) r
  case sub i sz' off len =>
    cases ho : s.O i with
    | none => rw [ho] at hx; simp at hx
    | some p =>
      rw [ho] at hx
      cases p <;> simp only at hx <;> try (simp at hx; done)
      all_goals
        rename_i sz0 els0
        cases hb : Nat.beq sz0 sz' with
        | false => rw [hb] at hx; simp at hx
        | true =>
          have := nbE hb; subst this
          rw [hb] at hx
          simp only [cond_true, Option.some.injEq, Prod.mk.injEq] at hx
          obtain ⟨rfl, rfl, rfl⟩ := hx
          exact sub_slOk (by simp [ho]) (F.objs i) (by simpa using hc) r

/-- A slice whose block nobody writes any more is a datum. -/
theorem frz_DR {κ : Kap} {φ : Phi} {O : Tab} {h : Heap} {i sz : Nat} {els els' : List DV} {v : Value} (ho : OR κ φ O h i (some (.frz sz els)))
    (hs : SlOk κ h v sz els') (hb : ∀ base len cap, v = .slice base len cap → els' ≠ [] → ∃ b off, base = some ⟨b, off, none⟩ ∧ φ i = .at b) : DR κ h (.lst sz els' false) v := by
  obtain ⟨base, cap, rfl, hcap, hs⟩ := hs
  by_cases he : els' = []
  · subst he; exact .lst0 (fun hh => by simp at hh)
  · rcases hs with hs | ⟨b, off, c, ty, fz, rfl, hb', hel, hsz⟩
    · exact absurd hs he
    · obtain ⟨b0, off0, e, hφ⟩ := hb _ _ _ rfl he
      injection e with e; injection e with e1 e2; subst e1
      rcases ho with ⟨h1, _⟩ | ⟨b1, c1, ty1, fz1, h1, h2, h3, h5⟩
      · rw [h1] at hφ; cases hφ
      · rw [h1] at hφ; injection hφ with hφ; subst hφ
        exact .lst h2 hb' (fun hh => by simp at hh) hcap hsz hel.1 hel.2.2

/-- Some arrays are frozen, else two tables are the same. -/
def Frzd (O O' : Tab) : Prop := ∀ i, O' i = O i ∨ ∃ ty sz els, O i = some (.arr ty sz els) ∧ O' i = some (.frz sz els)

theorem Frzd.refl (O : Tab) : Frzd O O := fun _ => .inl rfl

theorem updO_append (O : Tab) (u u' : List (Nat × PObj)) : updO O (u ++ u') = updO (updO O u) u' := by simp [updO, List.foldl_append]

theorem setT_self {O : Tab} {i : Nat} {p : PObj} (h : O i = some p) : setT O i (some p) = O := by
  funext j; unfold setT; split
  · rename_i e; subst e; exact h.symm
  · rfl

theorem own_base {κ : Kap} {φ : Phi} {O : Tab} {h : Heap} {i sz : Nat} {v : Value} (r : RVR κ φ O h (.own i sz) v) :
    ∃ base len cap, v = .slice base len cap ∧ (len = 0 ∨ ∃ b off, base = some ⟨b, off, none⟩ ∧ φ i = .at b) := by
  cases r with
  | own hφ hb hcap hlc hlen => exact ⟨_, _, _, rfl, .inr ⟨_, _, rfl, hφ⟩⟩
  | ownNil hφ => exact ⟨_, _, _, rfl, .inl rfl⟩
theorem sub_base {κ : Kap} {φ : Phi} {O : Tab} {h : Heap} {i sz off len : Nat} {v : Value} (r : RVR κ φ O h (.sub i sz off len) v) :
    ∃ base cap, v = .slice base len cap ∧ (len = 0 ∨ ∃ b off, base = some ⟨b, off, none⟩ ∧ φ i = .at b) := by
  cases r with
  | sub hφ hb hcap hlc => exact ⟨_, _, rfl, .inr ⟨_, _, rfl, hφ⟩⟩
  | sub0 hφ => exact ⟨_, _, rfl, .inl rfl⟩

theorem freeze_step {κ : Kap} {φ : Phi} {w : World} {s : SSt} {a : Act} (F : FRel κ φ w s a) {O0 : Tab} (hf : Frzd O0 s.O) {i ty sz : Nat} {els : List DV} (ho : O0 i = some (.arr ty sz els)) :
    ∃ κ', FRel κ' φ w { s with O := setT s.O i (some (.frz sz els)) } a ∧ Mono κ φ s.O w.heap κ' φ (setT s.O i (some (.frz sz els))) w.heap ∧
      Fr κ w κ' w ∧ Frzd O0 (setT s.O i (some (.frz sz els))) := by
  have hfz : Frzd O0 (setT s.O i (some (.frz sz els))) := fun j => by
    by_cases e : j = i
    · subst e; right; exact ⟨ty, sz, els, ho, setT_same _ _ _⟩
    · rw [setT_ne _ _ e]; exact hf j
  rcases hf i with e | ⟨ty', sz', els', h1, h2⟩
  · obtain ⟨κ', h1, h2, h3⟩ := F.freeze (i := i) (sz := sz) (els := els) (by rw [e]; exact ho)
    exact ⟨κ', h1, h2, h3, hfz⟩
  · rw [ho] at h1; injection h1 with h1; injection h1 with h1c h1a h1b; subst h1a; subst h1b
    rw [setT_self h2] at hfz ⊢
    exact ⟨κ, F, Mono.refl _ _ _ _, Fr.refl _ _, hfz⟩

theorem tkCell_ok {κ : Kap} {φ : Phi} {w : World} {s : SSt} {a : Act} (F : FRel κ φ w s a) {O0 : Tab} (hf : Frzd O0 s.O) {x : RV} {v : Value} {y : DV}
    {u : List (Nat × PObj)} {c : List Bool} (hx : tkCell O0 x = some (y, u, c)) (hc : ∀ b ∈ c, b = true) (r : RVR κ φ s.O w.heap x v) :
    ∃ κ', FRel κ' φ w { s with O := updO s.O u } a ∧ Mono κ φ s.O w.heap κ' φ (updO s.O u) w.heap ∧ Fr κ w κ' w ∧ Frzd O0 (updO s.O u) ∧ DR κ' w.heap y v := by
  cases x <;> simp only [tkCell] at hx <;> try (simp at hx; done)
  case d x =>
    simp only [Option.some.injEq, Prod.mk.injEq] at hx
    obtain ⟨rfl, rfl, rfl⟩ := hx
    cases r with
    | d hr => exact ⟨κ, F, Mono.refl _ _ _ _, Fr.refl _ _, hf, hr⟩
  case own i sz =>
    cases ho : O0 i with
    | none => rw [ho] at hx; simp at hx
    | some p =>
      rw [ho] at hx
      cases p <;> simp only at hx <;> try (simp at hx; done)
      case arr ty0 sz0 els0 =>
        cases hb : Nat.beq sz0 sz with
        | false => rw [hb] at hx; simp at hx
        | true =>
          have := nbE hb; subst this
          rw [hb] at hx
          simp only [cond_true, Option.some.injEq, Prod.mk.injEq] at hx
          obtain ⟨rfl, rfl, rfl⟩ := hx
          obtain ⟨κ', h1, h2, h3, h4⟩ := freeze_step F hf ho
          refine ⟨κ', h1, h2, h3, h4, ?_⟩
          have r' := r.mono h2
          have ho' := h1.objs i
          have e : (setT s.O i (some (PObj.frz sz0 els0))) i = some (.frz sz0 els0) := setT_same _ _ _
          simp only [e] at ho'
          refine frz_DR ho' (own_slOk (.inr e) (by simp only [e]; exact ho') r') (fun base len cap hv hne => ?_)
          obtain ⟨base', len', cap', hv', hb'⟩ := own_base r'
          have hl := own_slOk (.inr e) (by simp only [e]; exact ho') r'
          obtain ⟨base2, cap2, hv2, _⟩ := hl
          subst hv
          injection hv' with e1 e2 e3; subst e1
          injection hv2 with e4 e5 e6
          rcases hb' with hb' | hb'
          · exfalso; apply hne; apply List.eq_nil_of_length_eq_zero; omega
          · exact hb'
      case frz sz0 els0 =>
        cases hb : Nat.beq sz0 sz with
        | false => rw [hb] at hx; simp at hx
        | true =>
          have := nbE hb; subst this
          rw [hb] at hx
          simp only [cond_true, Option.some.injEq, Prod.mk.injEq] at hx
          obtain ⟨rfl, rfl, rfl⟩ := hx
          have e : s.O i = some (.frz sz0 els0) := by
            rcases hf i with e | ⟨ty', sz', els', h1, h2⟩
            · rw [e]; exact ho
            · rw [ho] at h1; cases h1
          have ho' := F.objs i
          rw [e] at ho'
          refine ⟨κ, F, Mono.refl _ _ _ _, Fr.refl _ _, hf, frz_DR ho' (own_slOk (.inr e) (by rw [e]; exact ho') r) (fun base len cap hv hne => ?_)⟩
          obtain ⟨base', len', cap', hv', hb'⟩ := own_base r
          obtain ⟨base2, cap2, hv2, _⟩ := own_slOk (.inr e) (by rw [e]; exact ho') r
          subst hv
          injection hv' with e1 e2 e3; subst e1
          injection hv2 with e4 e5 e6
          rcases hb' with hb' | hb'
          · exfalso; apply hne; apply List.eq_nil_of_length_eq_zero; omega
          · exact hb'
  case sub i sz off len =>
    cases ho : O0 i with
    | none => rw [ho] at hx; simp at hx
    | some p =>
      rw [ho] at hx
      cases p <;> simp only at hx <;> try (simp at hx; done)
      case arr ty0 sz0 els0 =>
        cases hb : Nat.beq sz0 sz with
        | false => rw [hb] at hx; simp at hx
        | true =>
          have := nbE hb; subst this
          rw [hb] at hx
          simp only [cond_true, Option.some.injEq, Prod.mk.injEq] at hx
          obtain ⟨rfl, rfl, rfl⟩ := hx
          obtain ⟨κ', h1, h2, h3, h4⟩ := freeze_step F hf ho
          refine ⟨κ', h1, h2, h3, h4, ?_⟩
          have r' := r.mono h2
          have ho' := h1.objs i
          have e : (setT s.O i (some (PObj.frz sz0 els0))) i = some (.frz sz0 els0) := setT_same _ _ _
          simp only [e] at ho'
          have hle : off + len ≤ els0.length := by simpa using hc
          refine frz_DR ho' (sub_slOk (.inr e) (by simp only [e]; exact ho') hle r') (fun base l cap hv hne => ?_)
          obtain ⟨base', cap', hv', hb'⟩ := sub_base r'
          subst hv
          injection hv' with e1 e2 e3; subst e1
          rcases hb' with hb' | hb'
          · exfalso; apply hne; subst hb'; simp
          · exact hb'
      case frz sz0 els0 =>
        cases hb : Nat.beq sz0 sz with
        | false => rw [hb] at hx; simp at hx
        | true =>
          have := nbE hb; subst this
          rw [hb] at hx
          simp only [cond_true, Option.some.injEq, Prod.mk.injEq] at hx
          obtain ⟨rfl, rfl, rfl⟩ := hx
          have e : s.O i = some (.frz sz0 els0) := by
            rcases hf i with e | ⟨ty', sz', els', h1, h2⟩
            · rw [e]; exact ho
            · rw [ho] at h1; cases h1
          have ho' := F.objs i
          rw [e] at ho'
          have hle : off + len ≤ els0.length := by simpa using hc
          refine ⟨κ, F, Mono.refl _ _ _ _, Fr.refl _ _, hf, frz_DR ho' (sub_slOk (.inr e) (by rw [e]; exact ho') hle r) (fun base l cap hv hne => ?_)⟩
          obtain ⟨base', cap', hv', hb'⟩ := sub_base r
          subst hv
          injection hv' with e1 e2 e3; subst e1
          rcases hb' with hb' | hb'
          · exfalso; apply hne; subst hb'; simp
          · exact hb'

theorem tkCells_ok {O0 : Tab} : ∀ {κ : Kap} {φ : Phi} {w : World} {s : SSt} {a : Act} (_ : FRel κ φ w s a) (_ : Frzd O0 s.O) {xs : List RV} {vs : List Value} {ys : List DV}
    {u : List (Nat × PObj)} {c : List Bool} (_ : tkCells O0 xs = some (ys, u, c)) (_ : ∀ b ∈ c, b = true) (_ : vs.length = xs.length)
    (_ : ∀ (i : Nat) (x : RV) (v : Value), xs[i]? = some x → vs[i]? = some v → RVR κ φ s.O w.heap x v),
    ∃ κ', FRel κ' φ w { s with O := updO s.O u } a ∧ Mono κ φ s.O w.heap κ' φ (updO s.O u) w.heap ∧ Fr κ w κ' w ∧ Frzd O0 (updO s.O u) ∧
      ys.length = xs.length ∧ (∀ y ∈ ys, y.scal = true) ∧ ∀ (i : Nat) (y : DV) (v : Value), ys[i]? = some y → vs[i]? = some v → DR κ' w.heap y v := by
  intro κ φ w s a F hf xs
  induction xs generalizing κ s with
  | nil =>
    intro vs ys u c hx _ _ _
    simp only [tkCells, Option.some.injEq, Prod.mk.injEq] at hx
    obtain ⟨rfl, rfl, rfl⟩ := hx
    exact ⟨κ, F, Mono.refl _ _ _ _, Fr.refl _ _, hf, rfl, by simp, by simp⟩
  | cons x xs ih =>
    intro vs ys u c hx hc hl hr
    simp only [tkCells] at hx
    cases h1 : tkCell O0 x with
    | none => rw [h1] at hx; simp at hx
    | some p1 =>
      obtain ⟨y, u1, c1⟩ := p1
      cases h2 : tkCells O0 xs with
      | none => rw [h1, h2] at hx; simp at hx
      | some p2 =>
        obtain ⟨l, u2, c2⟩ := p2
        rw [h1, h2] at hx
        simp only at hx
        cases hs : y.scal with
        | false => rw [hs] at hx; simp at hx
        | true =>
          rw [hs] at hx
          simp only [cond_true, Option.some.injEq, Prod.mk.injEq] at hx
          obtain ⟨rfl, rfl, rfl⟩ := hx
          cases vs with
          | nil => simp at hl
          | cons v vs =>
            obtain ⟨κ1, F1, M1, R1, f1, d1⟩ := tkCell_ok F hf h1 (fun b hb => hc b (by simp [hb])) (hr 0 x v rfl rfl)
            obtain ⟨κ2, F2, M2, R2, f2, l2, s2, d2⟩ := ih F1 f1 h2 (fun b hb => hc b (by simp [hb])) (vs := vs) (by simpa using hl)
              (fun i x' v' hx' hv' => (hr (i + 1) x' v' (by simpa using hx') (by simpa using hv')).mono M1)
            refine ⟨κ2, ?_, ?_, R1.trans R2, ?_, by simp [l2], ?_, ?_⟩
            · rw [updO_append]; exact F2
            · rw [updO_append]; exact M1.trans M2
            · rw [updO_append]; exact f2
            · intro y' hy'
              rcases List.mem_cons.1 hy' with rfl | hy'
              · exact hs
              · exact s2 y' hy'
            · intro i y' v' hy' hv'
              cases i with
              | zero => simp at hy' hv'; subst hy'; subst hv'; exact d1.mono M2.imm
              | succ i => exact d2 i y' v' (by simpa using hy') (by simpa using hv')

theorem tkDV_ok {κ : Kap} {φ : Phi} {w : World} {s : SSt} {a : Act} (F : FRel κ φ w s a) {O0 : Tab} (hf : Frzd O0 s.O) {x : RV} {v : Value} {y : DV}
    {u : List (Nat × PObj)} {c : List Bool} (hx : tkDV O0 x = some (y, u, c)) (hc : ∀ b ∈ c, b = true) (r : RVR κ φ s.O w.heap x v) :
    ∃ κ', FRel κ' φ w { s with O := updO s.O u } a ∧ Mono κ φ s.O w.heap κ' φ (updO s.O u) w.heap ∧ Fr κ w κ' w ∧ Frzd O0 (updO s.O u) ∧ DR κ' w.heap y v := by
  by_cases hag : ∃ cs, x = .agg cs
  · obtain ⟨cs, rfl⟩ := hag
    simp only [tkDV] at hx
    cases h1 : tkCells O0 cs with
    | none => rw [h1] at hx; simp at hx
    | some p =>
      obtain ⟨l, u1, c1⟩ := p
      rw [h1] at hx
      simp only [Option.some.injEq, Prod.mk.injEq] at hx
      obtain ⟨rfl, rfl, rfl⟩ := hx
      cases r with
      | agg hl hs hr =>
        rename_i vs
        obtain ⟨κ', h2, h3, h4, h5, h6, h7, h8⟩ := tkCells_ok F hf h1 hc (vs := vs.toList) (by simpa using hl) (fun i x v hx hv => hr i x v hx (by simpa using hv))
        exact ⟨κ', h2, h3, h4, h5, .agg (by rw [hl, h6]) h7 (fun i y v hy hv => h8 i y v hy (by simpa using hv))⟩
  · have : tkDV O0 x = tkCell O0 x := by cases x <;> first | rfl | exact absurd ⟨_, rfl⟩ hag
    rw [this] at hx
    exact tkCell_ok F hf hx hc r

end Go.Am

/-
  The abstract machine: each operation is sound (loads, stores, parts).
-/
namespace Go.Am
set_option linter.unusedSectionVars false
variable {P : Program} [Gl]

theorem DR.scal_of {κ : Kap} {h : Heap} {x : DV} {v : Value} (r : DR κ h x v) (hv : v.oneCell = true) : x.scal = true := by
  cases r <;> first | rfl | (simp [Value.oneCell] at hv)

theorem allD_spec : ∀ (l : List RV) (dl : List DV), allD l = some dl → l = dl.map .d := by
  intro l
  induction l with
  | nil => intro dl h; simp [allD] at h; subst h; rfl
  | cons x l ih =>
    intro dl h
    cases x <;> simp only [allD] at h <;> try (simp at h; done)
    cases h2 : allD l with
    | none => rw [h2] at h; simp at h
    | some dl2 => rw [h2] at h; simp at h; subst h; simp [← ih dl2 h2]

theorem mkAgg_ok {κ : Kap} {φ : Phi} {O : Tab} {h : Heap} {l : List RV} {vs : Array Value} (hl : vs.size = l.length) (hs : ∀ v ∈ vs, v.oneCell = true)
    (hr : ∀ (i : Nat) (x : RV) (v : Value), l[i]? = some x → vs[i]? = some v → RVR κ φ O h x v) : RVR κ φ O h (mkAgg l) (.agg vs) := by
  unfold mkAgg
  cases e : allD l with
  | none => exact .agg hl hs hr
  | some dl =>
    have := allD_spec l dl e; subst this
    have hd : ∀ (i : Nat) (x : DV) (v : Value), dl[i]? = some x → vs[i]? = some v → DR κ h x v := by
      intro i x v hx hv
      have := hr i (.d x) v (by simp [hx]) hv
      cases this with
      | d hr => exact hr
    refine .d (.agg (by simpa using hl) (fun y hy => ?_) hd)
    obtain ⟨i, hi⟩ := List.mem_iff_getElem?.1 hy
    have hlt : i < vs.size := by
      have := (List.getElem?_eq_some_iff.1 hi).1
      simp at hl; omega
    exact (hd i y vs[i] hi (by simp [hlt])).scal_of (hs _ (by simp))

theorem el_cells {κ : Kap} {h : Heap} {c : Array Value} {o sz : Nat} {els : List DV} (e : EL κ h c o sz els) {i : Nat} {x : DV} (hx : els[i]? = some x) :
    o + i * sz + sz ≤ c.size ∧ x.cells.length = sz ∧ (∀ y ∈ x.cells, y.scal = true) ∧
      ∀ (j : Nat) (y : DV) (v : Value), x.cells[j]? = some y → c[o + i * sz + j]? = some v → DR κ h y v := by
  have hi := (List.getElem?_eq_some_iff.1 hx).1
  have hm := List.mem_iff_getElem?.2 ⟨i, hx⟩
  refine ⟨?_, (e.1 x hm).1, (e.1 x hm).2, fun j y v hy hv => e.2.2 i x j y v hx hy hv⟩
  have := Nat.mul_le_mul_right sz (show i + 1 ≤ els.length from hi)
  rw [Nat.add_mul] at this
  have := e.2.1
  omega

theorem cut_ok {κ : Kap} {h : Heap} {t z off o : Nat} {cs : List DV} {c : Array Value} {y : DV} (hy : cut (Env.of P) t z cs off = some y)
    (hs : o + cs.length ≤ c.size) (hsc : ∀ y ∈ cs, y.scal = true)
    (hr : ∀ (j : Nat) (y : DV) (v : Value), cs[j]? = some y → c[o + j]? = some v → DR κ h y v) :
    DR κ h y (if (Env.of P).isAgg t then .agg (c.extract (o + off) (o + off + z)) else c.getD (o + off) undef) ∧ ((Env.of P).isAgg t = false → z = 1) ∧ off + z ≤ cs.length := by
  unfold cut at hy
  cases h1 : Nat.ble (off + z) cs.length with
  | false => rw [h1] at hy; simp at hy
  | true =>
    have hle := Nat.le_of_ble_eq_true h1
    rw [h1] at hy
    simp only [cond_true] at hy
    cases h2 : (Env.of P).isAgg t with
    | true =>
      rw [h2] at hy
      simp only [cond_true, Option.some.injEq] at hy
      subst hy
      refine ⟨?_, by simp, hle⟩
      simp only [if_true]
      refine .agg (by simp; omega) (fun y hy => hsc y (List.mem_of_mem_drop (List.mem_of_mem_take hy))) (fun i x v hx hv => ?_)
      rw [List.getElem?_take] at hx
      split at hx
      · rw [List.getElem?_drop] at hx
        rw [Array.getElem?_extract] at hv
        split at hv
        · refine hr (off + i) x v hx ?_
          rw [← Nat.add_assoc]; exact hv
        · simp at hv
      · simp at hx
    | false =>
      rw [h2] at hy
      simp only [cond_false] at hy
      cases h3 : Nat.beq z 1 with
      | false => rw [h3] at hy; simp at hy
      | true =>
        have := nbE h3; subst this
        rw [h3] at hy
        simp only [cond_true, Option.some.injEq] at hy
        subst hy
        have hlt : off < cs.length := by omega
        refine ⟨?_, by simp, hle⟩
        simp only [Bool.false_eq_true, if_false]
        have hlt2 : o + off < c.size := by omega
        refine hr off _ _ ?_ (by simp [Array.getD, hlt2])
        simp [List.getD, hlt]

theorem run_loadAt {w : World} {t z b o : Nat} {c : Array Value} {ty : TypeId} {fz : Nat × Nat} (hz : (Env.of P).size t = some z) (hb : w.heap[b]? = some (.cells c ty fz))
    (hn : o + z ≤ c.size) (h1 : (Env.of P).isAgg t = false → z = 1) :
    (Instr.loadAt t (.pointer (some ⟨b, o, none⟩))).run P w = .ok (if (Env.of P).isAgg t then .agg (c.extract o (o + z)) else c.getD o undef) w := by
  simp only [Instr.loadAt, Instr.sureAddr, Sem.run_bind, Sem.run_pure, Result.andThen_ok]
  exact run_loadVar_at hz hb hn h1

theorem iptr_load {κ : Kap} {φ : Phi} {w : World} {O : Tab} {t z off : Nat} {x y : DV} {v : Value} (hz : (Env.of P).size t = some z)
    (hy : cut (Env.of P) t z x.cells off = some y) (r : RVR κ φ O w.heap (.iptr x off) v) :
    ∃ u, (Instr.loadAt t v).run P w = .ok u w ∧ DR κ w.heap y u := by
  cases r with
  | iptr hκ hb hs hsc hr =>
    rename_i b o c ty fz
    obtain ⟨h1, h2, h3⟩ := cut_ok hy hs hsc hr
    exact ⟨_, run_loadAt hz hb (by omega) h2, h1⟩

theorem eptr_load0 {κ : Kap} {w : World} {t z idx sz off b : Nat} {c : Array Value} {ty : TypeId} {fz : Nat × Nat} {els : List DV} {y : DV} {cds : List Bool} (hz : (Env.of P).size t = some z)
    (hb : w.heap[b]? = some (.cells c ty fz)) (he : EL κ w.heap c 0 sz els)
    (hy : elLoad0 (Env.of P) t z sz off idx els = some (y, cds)) (hc : ∀ b ∈ cds, b = true) :
    ∃ u, (Instr.loadAt t (.pointer (some ⟨b, idx * sz + off, none⟩))).run P w = .ok u w ∧ DR κ w.heap y u := by
  unfold elLoad0 at hy
  have hi : idx < els.length := by
    cases hq : (Nat.beq off 0 && Nat.beq z sz && Nat.beq sz 1 && !(Env.of P).isAgg t) with
    | true =>
      rw [hq] at hy
      simp only [cond_true, Option.some.injEq, Prod.mk.injEq] at hy
      obtain ⟨rfl, rfl⟩ := hy
      simpa using hc (decide (idx < els.length)) (by simp)
    | false =>
      rw [hq] at hy
      simp only [cond_false] at hy
      cases hcut : cut (Env.of P) t z (els.getD idx .nilp).cells off with
      | none => rw [hcut] at hy; simp at hy
      | some y' =>
        rw [hcut] at hy
        simp only [Option.some.injEq, Prod.mk.injEq] at hy
        obtain ⟨rfl, rfl⟩ := hy
        simpa using hc (decide (idx < els.length)) (by simp)
  have hx : els[idx]? = some (els.getD idx .nilp) := by simp [List.getD, hi]
  obtain ⟨e1, e2, e3, e4⟩ := el_cells he hx
  simp only [Nat.zero_add] at e1 e4
  cases hq : (Nat.beq off 0 && Nat.beq z sz && Nat.beq sz 1 && !(Env.of P).isAgg t) with
  | true =>
    rw [hq] at hy
    simp only [cond_true, Option.some.injEq, Prod.mk.injEq] at hy
    obtain ⟨rfl, rfl⟩ := hy
    simp only [Bool.and_eq_true, Bool.not_eq_true'] at hq
    obtain ⟨⟨⟨q1, q2⟩, q3⟩, q4⟩ := hq
    have := nbE q1; subst this
    have := nbE q2; subst this
    have := nbE q3; subst this
    refine ⟨_, run_loadAt hz hb (by omega) (fun _ => rfl), ?_⟩
    rw [q4]
    simp only [Bool.false_eq_true, if_false]
    have hsc : (els.getD idx .nilp).scal = true := by
      have := hc (els.getD idx .nilp).scal (by simp)
      exact this
    have hlt : idx * 1 + 0 < c.size := by omega
    refine e4 0 _ _ ?_ (by simp [Array.getD, show idx < c.size by omega])
    generalize els.getD idx .nilp = q at *
    cases q <;> first | rfl | (simp [DV.scal] at hsc)
  | false =>
    rw [hq] at hy
    simp only [cond_false] at hy
    cases hcut : cut (Env.of P) t z (els.getD idx .nilp).cells off with
    | none => rw [hcut] at hy; simp at hy
    | some y' =>
      rw [hcut] at hy
      simp only [Option.some.injEq, Prod.mk.injEq] at hy
      obtain ⟨rfl, rfl⟩ := hy
      obtain ⟨h1, h2, h3⟩ := cut_ok hcut (o := idx * sz) (by omega) e3 e4
      exact ⟨_, run_loadAt hz hb (by omega) h2, h1⟩


/-- An operation that leaves the world as it is. -/
def OutP (P : Program) (κ : Kap) (φ : Phi) (w : World) (s : SSt) (val : RV) (upd : List (Nat × PObj)) (m : Sem Value) : Prop :=
  upd = [] ∧ ∃ u, m.run P w = .ok u w ∧ RVR κ φ s.O w.heap val u
theorem cutC_cut {E : Env} {t z off : Nat} {cs : List DV} {y : DV} {c : List Bool} (h : cutC E t z cs off = some (y, c)) (hc : ∀ b ∈ c, b = true) : cut E t z cs off = some y := by
  unfold cutC at h
  unfold cut
  cases hg : E.isAgg t with
  | true =>
    rw [hg] at h; simp only [cond_true, Option.some.injEq, Prod.mk.injEq] at h
    obtain ⟨rfl, rfl⟩ := h
    rw [hc _ (.head _)]; rfl
  | false =>
    rw [hg] at h; simp only [cond_false] at h
    cases hz : Nat.beq z 1 with
    | false => rw [hz] at h; simp at h
    | true =>
      rw [hz] at h; simp only [cond_true, Option.some.injEq, Prod.mk.injEq] at h
      obtain ⟨rfl, rfl⟩ := h
      rw [hc _ (.head _)]; rfl
theorem elLoad_old {E : Env} {t z sz off idx : Nat} {els : List DV} {y : DV} {c : List Bool} (h : elLoad E t z sz off idx els = some (y, c)) (hc : ∀ b ∈ c, b = true) : ∃ c0, elLoad0 E t z sz off idx els = some (y, c0) ∧ ∀ b ∈ c0, b = true := by
  unfold elLoad at h
  unfold elLoad0
  cases hq : (Nat.beq off 0 && Nat.beq z sz && Nat.beq sz 1 && !E.isAgg t) with
  | true => rw [hq] at h; exact ⟨c, h, hc⟩
  | false =>
    rw [hq] at h; simp only [cond_false] at h ⊢
    cases hk : cutC E t z (els.getD idx .nilp).cells off with
    | none => rw [hk] at h; simp at h
    | some p =>
      obtain ⟨y', c'⟩ := p
      rw [hk] at h
      simp only [Option.some.injEq, Prod.mk.injEq] at h
      obtain ⟨rfl, rfl⟩ := h
      rw [cutC_cut hk (fun b hb => hc b (.tail _ hb))]
      exact ⟨_, rfl, fun b hb => by simp only [List.mem_singleton] at hb; subst hb; exact hc _ (.head _)⟩
theorem eptr_load {κ : Kap} {w : World} {t z idx sz off b : Nat} {c : Array Value} {ty : TypeId} {fz : Nat × Nat} {els : List DV} {y : DV} {cds : List Bool} (hz : (Env.of P).size t = some z)
    (hb : w.heap[b]? = some (.cells c ty fz)) (he : EL κ w.heap c 0 sz els)
    (hy : elLoad (Env.of P) t z sz off idx els = some (y, cds)) (hc : ∀ b ∈ cds, b = true) :
    ∃ u, (Instr.loadAt t (.pointer (some ⟨b, idx * sz + off, none⟩))).run P w = .ok u w ∧ DR κ w.heap y u :=
  let ⟨_, h1, h2⟩ := elLoad_old hy hc
  eptr_load0 hz hb he h1 h2

theorem OutP.pure {κ : Kap} {φ : Phi} {w : World} {s : SSt} {val : RV} {m : Sem Value} {v : Value} (hm : m.run P w = .ok v w) (hr : RVR κ φ s.O w.heap val v) : OutP P κ φ w s val [] m :=
  ⟨rfl, v, hm, hr⟩

theorem load_okP {κ : Kap} {φ : Phi} {w : World} {s : SSt} {a : Act} (F : FRel κ φ w s a) {t : Nat} {x : RV} {v : Value} {res : Res}
    (hx : exLoad (Env.of P) s.O t x = some res) (hc : ∀ b ∈ res.conds, b = true) (r : RVR κ φ s.O w.heap x v) : OutP P κ φ w s res.val res.upd (Instr.loadAt t v) := by
  unfold exLoad at hx
  cases hz : (Env.of P).size t with
  | none => rw [hz] at hx; simp at hx
  | some z =>
    rw [hz] at hx
    cases x <;> simp only at hx <;> try (simp at hx; done)
    case iptr x off =>
      cases hcut : cut (Env.of P) t z x.cells off with
      | none => rw [hcut] at hx; simp at hx
      | some y =>
        rw [hcut] at hx; simp only [Option.some.injEq] at hx; subst hx
        obtain ⟨u, h1, h2⟩ := iptr_load hz hcut r
        exact OutP.pure h1 (.d h2)
    case ptr i off =>
      cases r with
      | ptr hφ =>
        rename_i b
        have ho := F.objs i
        cases hO : s.O i with
        | none => rw [hO] at hx; simp at hx
        | some p =>
          rw [hO] at hx ho
          cases p <;> simp only at hx <;> try (simp at hx; done)
          case box ty cs =>
            obtain ⟨b', c, h1, h2, h3, h4, h5, h6⟩ := ho
            rw [h1] at hφ; injection hφ with hφ; subst hφ
            cases hle : Nat.ble (off + z) cs.length with
            | false => rw [hle] at hx; simp at hx
            | true =>
              have hle' := Nat.le_of_ble_eq_true hle
              rw [hle] at hx
              simp only [cond_true] at hx
              cases ha : (Env.of P).isAgg t with
              | true =>
                rw [ha] at hx
                simp only [cond_true, Option.some.injEq] at hx; subst hx
                have hrun := run_loadAt hz h3 (o := off) (by omega) (by rw [ha]; simp)
                rw [ha] at hrun; simp only [if_true] at hrun
                refine OutP.pure hrun (mkAgg_ok (by simp; omega) (fun v hv => ?_) (fun k x v hx hv => ?_))
                · obtain ⟨k, hk⟩ := Array.mem_iff_getElem?.1 hv
                  rw [Array.getElem?_extract] at hk
                  split at hk
                  · exact h5 v (Array.mem_iff_getElem?.2 ⟨_, hk⟩)
                  · simp at hk
                · rw [List.getElem?_take] at hx
                  split at hx
                  · rw [List.getElem?_drop] at hx
                    rw [Array.getElem?_extract] at hv
                    split at hv
                    · exact h6 _ x v hx hv
                    · simp at hv
                  · simp at hx
              | false =>
                rw [ha] at hx
                simp only [cond_false] at hx
                cases h1' : Nat.beq z 1 with
                | false => rw [h1'] at hx; simp at hx
                | true =>
                  have := nbE h1'; subst this
                  rw [h1'] at hx
                  simp only [cond_true, Option.some.injEq] at hx; subst hx
                  have hrun := run_loadAt hz h3 (o := off) (by omega) (fun _ => rfl)
                  rw [ha] at hrun; simp only [Bool.false_eq_true, if_false] at hrun
                  refine OutP.pure hrun ?_
                  have hlt : off < cs.length := by omega
                  have hlt2 : off < c.size := by omega
                  exact h6 off _ _ (by simp [List.getD, hlt]) (by simp [Array.getD, hlt2])
          case arr ty sz els =>
            cases hg : ((Env.of P).isAgg t && Nat.beq off 0) with
            | false => rw [hg] at hx; simp at hx
            | true =>
              rw [hg] at hx
              simp only [cond_true, Option.some.injEq] at hx; subst hx
              simp only [Bool.and_eq_true] at hg
              have := nbE hg.2; subst this
              have hlen : els.length * sz = z := by simpa using hc
              rcases ho with ⟨h1, h2⟩ | ⟨b', c, fz, h1, h2, h3, h4, h5⟩
              · rw [h1] at hφ; cases hφ
              · rw [h1] at hφ; injection hφ with hφ; subst hφ
                have hle : els.length * sz ≤ c.size := by have := h5.2.1; omega
                have hrun := run_loadAt hz h3 (o := 0) (by omega) (by rw [hg.1]; simp)
                rw [hg.1] at hrun; simp only [if_true] at hrun
                refine OutP.pure hrun (.d ?_)
                have hflat : ∀ (l : List DV), ElsOk sz l → (l.flatMap DV.cells).length = l.length * sz ∧ ∀ (k : Nat) (y : DV), (l.flatMap DV.cells)[k]? = some y → ∃ i x j, l[i]? = some x ∧ x.cells[j]? = some y ∧ k = i * sz + j := by
                  intro l
                  induction l with
                  | nil => intro _; exact ⟨by simp, by simp⟩
                  | cons x l ih =>
                    intro hok
                    obtain ⟨g1, g2⟩ := ih (fun y hy => hok y (by simp [hy]))
                    have g3 := (hok x (by simp)).1
                    refine ⟨by simp [g1, g3, Nat.add_mul]; omega, fun k y hk => ?_⟩
                    simp only [List.flatMap_cons] at hk
                    by_cases hkl : k < x.cells.length
                    · rw [List.getElem?_append_left hkl] at hk
                      exact ⟨0, x, k, rfl, hk, by simp⟩
                    · rw [List.getElem?_append_right (by omega)] at hk
                      obtain ⟨i, x', j, q1, q2, q3⟩ := g2 _ y hk
                      refine ⟨i + 1, x', j, by simpa using q1, q2, ?_⟩
                      rw [Nat.add_mul]; omega
                obtain ⟨g1, g2⟩ := hflat els h5.1
                refine .agg (by simp [g1]; omega) (fun y hy => ?_) (fun k y v hy hv => ?_)
                · simp only [List.mem_flatMap] at hy
                  obtain ⟨x, hx1, hx2⟩ := hy
                  exact (h5.1 x hx1).2 y hx2
                · obtain ⟨i', x', j, q1, q2, q3⟩ := g2 k y hy
                  rw [Array.getElem?_extract] at hv
                  split at hv
                  · refine h5.2.2 i' x' j y v q1 q2 ?_
                    simp only [Nat.zero_add] at hv ⊢
                    rw [← q3]; exact hv
                  · simp at hv
    case eptr i sz idx off =>
      cases r with
      | eptr hφ =>
        rename_i b
        have ho := F.objs i
        cases hO : s.O i with
        | none => rw [hO] at hx; simp at hx
        | some p =>
          rw [hO] at hx ho
          cases p <;> simp only at hx <;> try (simp at hx; done)
          all_goals
            rename_i sz' els
            cases hb : Nat.beq sz' sz with
            | false => rw [hb] at hx; simp at hx
            | true =>
              have := nbE hb; subst this
              rw [hb] at hx
              simp only [cond_true] at hx
              cases he : elLoad (Env.of P) t z sz' off idx els with
              | none => rw [he] at hx; simp at hx
              | some p =>
                obtain ⟨y, cd⟩ := p
                rw [he] at hx; simp only [Option.some.injEq] at hx; subst hx
                rcases arr_or (by first | exact .inl ⟨_, ho⟩ | exact .inr ho) with ⟨h1, h2⟩ | ⟨b', c, ty, fz, h1, h3, h5⟩
                · rw [h1] at hφ; cases hφ
                · rw [h1] at hφ; injection hφ with hφ; subst hφ
                  obtain ⟨u, g1, g2⟩ := eptr_load hz h3 h5 he hc
                  exact OutP.pure g1 (.d g2)


theorem load_ok {κ : Kap} {φ : Phi} {w : World} {s : SSt} {a : Act} (F : FRel κ φ w s a) {t : Nat} {x : RV} {v : Value} {res : Res}
    (hx : exLoad (Env.of P) s.O t x = some res) (hc : ∀ b ∈ res.conds, b = true) (r : RVR κ φ s.O w.heap x v) : Out P κ φ w s a res.val res.upd (Instr.loadAt t v) := by
  obtain ⟨h1, u, h2, h3⟩ := load_okP F hx hc r
  rw [h1]; exact Out.pure F h2 h3

end Go.Am

/-
  The abstract machine: each operation is sound (stores, new variables, parts).
-/
namespace Go.Am
set_option linter.unusedSectionVars false
variable {P : Program} [Gl]

theorem rv_cells {κ : Kap} {φ : Phi} {O : Tab} {h : Heap} {x : RV} {v : Value} (r : RVR κ φ O h x v) (hk : okPart x = true) :
    v.cells.size = x.cells.length ∧ (∀ u ∈ v.cells, u.oneCell = true) ∧
      ∀ (j : Nat) (y : RV) (u : Value), x.cells[j]? = some y → v.cells[j]? = some u → RVR κ φ O h y u := by
  have one : ∀ {x : RV} {v : Value}, RVR κ φ O h x v → x.cells = [x] → v.cells = #[v] → v.oneCell = true →
      v.cells.size = x.cells.length ∧ (∀ u ∈ v.cells, u.oneCell = true) ∧ ∀ (j : Nat) (y : RV) (u : Value), x.cells[j]? = some y → v.cells[j]? = some u → RVR κ φ O h y u := by
    intro x v r h1 h2 h3
    rw [h1, h2]
    refine ⟨rfl, by simpa using h3, fun j y u hy hu => ?_⟩
    cases j with
    | zero => simp at hy hu; subst hy; subst hu; exact r
    | succ j => simp at hy
  cases r with
  | bot v => simp [okPart] at hk
  | und => simp [okPart] at hk
  | d hr =>
    rename_i x
    obtain ⟨h1, h2⟩ := hr.cells
    refine ⟨by simpa [RV.cells] using h1, fun u hu => ?_, fun j y u hy hu => ?_⟩
    · cases hr with
      | agg hl hs hr =>
        obtain ⟨k, hk'⟩ := Array.mem_iff_getElem?.1 hu
        simp only [Value.cells] at hk'
        have hlt := (Array.getElem?_eq_some_iff.1 hk').1
        simp only [DV.cells] at h2
        rename_i cs vs
        have hkc : k < cs.length := by omega
        have : cs[k]? = some cs[k] := by simp [hkc]
        exact (hr k _ _ this hk').oneCell (hs _ (by simp))
      | tup => simp [okPart] at hk
      | _ => simp only [Value.cells, List.mem_toArray, List.mem_singleton] at hu; subst hu; rfl
    · simp only [RV.cells, List.getElem?_map] at hy
      cases e : x.cells[j]? with
      | none => rw [e] at hy; simp at hy
      | some y' => rw [e] at hy; simp at hy; subst hy; exact .d (h2 j y' u e hu)
  | agg hl hs hr => exact ⟨hl, hs, hr⟩
  | tup => simp [okPart] at hk
  | ptr h1 => exact one (.ptr h1) rfl rfl rfl
  | eptr h1 => exact one (.eptr h1) rfl rfl rfl
  | iptr h1 h2 h3 h4 h5 => exact one (.iptr h1 h2 h3 h4 h5) rfl rfl rfl
  | own h1 h2 h3 h4 h5 => exact one (.own h1 h2 h3 h4 h5) rfl rfl rfl
  | ownNil h1 => exact one (.ownNil h1) rfl rfl rfl
  | sub h1 h2 h3 h4 => exact one (.sub h1 h2 h3 h4) rfl rfl rfl
  | sub0 h1 => exact one (.sub0 h1) rfl rfl rfl
  | map h1 => exact one (.map h1) rfl rfl rfl
  | sl h1 h2 h3 h4 h5 h6 h7 => exact one (.sl h1 h2 h3 h4 h5 h6 h7) rfl rfl rfl
  | clo h1 h2 h3 h4 => exact one (.clo h1 h2 h3 h4) rfl rfl rfl

theorem chunks_length (sz : Nat) (agg : Bool) : ∀ (n : Nat) (l : List DV), (chunks sz agg n l).length = n
  | 0, _ => rfl
  | n + 1, l => by simp [chunks, chunks_length sz agg n]

theorem chunks_get (sz : Nat) (agg : Bool) : ∀ (n : Nat) (l : List DV) (i : Nat) (x : DV), (chunks sz agg n l)[i]? = some x →
    i < n ∧ x = (bif agg then .agg ((l.drop (i * sz)).take sz) else (l.drop (i * sz)).headD .nilp)
  | 0, _, i, x, h => by simp [chunks] at h
  | n + 1, l, 0, x, h => by simp [chunks] at h; subst h; simp
  | n + 1, l, i + 1, x, h => by
    simp only [chunks, List.getElem?_cons_succ] at h
    obtain ⟨h1, h2⟩ := chunks_get sz agg n (l.drop sz) i x h
    refine ⟨by omega, ?_⟩
    rw [h2, List.drop_drop]
    have : sz + i * sz = (i + 1) * sz := by rw [Nat.add_mul]; omega
    rw [this]

theorem chunks_EL {κ : Kap} {h : Heap} {c : Array Value} {o sz n : Nat} {agg : Bool} {l : List DV} (hl : l.length = n * sz) (hs : ∀ y ∈ l, y.scal = true) (hg : agg = true ∨ sz = 1)
    (hc : o + n * sz ≤ c.size) (hr : ∀ (k : Nat) (y : DV) (v : Value), l[k]? = some y → c[o + k]? = some v → DR κ h y v) : EL κ h c o sz (chunks sz agg n l) := by
  have key : ∀ (i : Nat) (x : DV), (chunks sz agg n l)[i]? = some x → i < n ∧ x.cells = (l.drop (i * sz)).take sz := by
    intro i x hx
    obtain ⟨h1, h2⟩ := chunks_get sz agg n l i x hx
    refine ⟨h1, ?_⟩
    cases agg with
    | true => rw [h2]; rfl
    | false =>
      rcases hg with hg | hg
      · simp at hg
      · subst hg
        simp only [Nat.mul_one, cond_false] at h2 ⊢
        have hlt : i < l.length := by omega
        rw [List.drop_eq_getElem_cons hlt] at h2 ⊢
        simp only [List.headD_cons] at h2
        have hsc := hs l[i] (by simp)
        rw [h2]
        simp only [List.take_succ_cons, List.take_zero]
        generalize l[i] = q at hsc
        cases q <;> first | rfl | (simp [DV.scal] at hsc)
  refine ⟨fun x hx => ?_, by rw [chunks_length]; exact hc, fun i x j y v hx hy hv => ?_⟩
  · obtain ⟨i, hi⟩ := List.mem_iff_getElem?.1 hx
    obtain ⟨h1, h2⟩ := key i x hi
    rw [h2]
    refine ⟨?_, fun y hy => hs y (List.mem_of_mem_drop (List.mem_of_mem_take hy))⟩
    have := Nat.mul_le_mul_right sz (show i + 1 ≤ n from h1)
    rw [Nat.add_mul] at this
    simp; omega
  · obtain ⟨h1, h2⟩ := key i x hx
    rw [h2, List.getElem?_take] at hy
    split at hy
    · rw [List.getElem?_drop] at hy
      refine hr _ y v hy ?_
      rw [← Nat.add_assoc]; exact hv
    · simp at hy

theorem allScal_spec {l : List DV} (h : allScal l = true) : ∀ y ∈ l, y.scal = true := by simpa [allScal] using h

theorem run_storeAt {w : World} {t z b o : Nat} {c : Array Value} {ty : TypeId} {fz : Nat × Nat} {v : Value} (hz : (Env.of P).size t = some z) (hb : w.heap[b]? = some (.cells c ty fz))
    (hf : FzOk fz c.size) (hv : v.cells.size = z) (hn : o + z ≤ c.size) (h1 : ∀ x ∈ v.cells, x.oneCell = true) :
    (Instr.storeAt t (.pointer (some ⟨b, o, none⟩)) v).run P w = .ok () (World.row w b (.cells (splA c o v.cells.toList) ty fz)) := by
  simp only [Instr.storeAt, Instr.sureAddr, Sem.run_bind, Sem.run_pure, Result.andThen_ok]
  exact run_storeVar_at hz hb hf hv hn h1

theorem fzOk00 (n : Nat) : FzOk (0, 0) n := fun o _ h => by omega
theorem fzR00 (ty : TypeId) (n : Nat) : FzR ty (0, 0) n := ⟨fzOk00 n, fun _ => Nat.zero_le _⟩

theorem splA_mem {c : Array Value} {o : Nat} {vs : List Value} {v : Value} (h : v ∈ splA c o vs) : v ∈ c ∨ v ∈ vs := by
  simp only [splA, splice, List.mem_toArray, List.mem_append] at h
  rcases h with (h | h) | h
  · exact .inl (by have := List.mem_of_mem_take h; simpa using this)
  · exact .inr h
  · exact .inl (by have := List.mem_of_mem_drop h; simpa using this)

/-- The elements of a row behind a write to one element's cells. -/
theorem EL.set {κ κ' : Kap} {h h' : Heap} {c : Array Value} {sz idx off : Nat} {els : List DV} {y : DV} {vs : List Value} (e : EL κ h c 0 sz els) (hm : ∀ b, κ b = .imm → κ' b = .imm ∧ h'[b]? = h[b]?)
    (hi : idx < els.length) (hv : off + vs.length ≤ sz) (hy : y.cells.length = sz ∧ ∀ z ∈ y.cells, z.scal = true)
    (hr : ∀ (j : Nat) (z : DV) (v : Value), y.cells[j]? = some z → (if j < off then c[idx * sz + j]? else if j < off + vs.length then vs[j - off]? else c[idx * sz + j]?) = some v → DR κ' h' z v) :
    EL κ' h' (splA c (idx * sz + off) vs) 0 sz (els.set idx y) := by
  obtain ⟨e1, e2, e3⟩ := e
  have hle := Nat.mul_le_mul_right sz (show idx + 1 ≤ els.length from hi)
  rw [Nat.add_mul] at hle
  have hb : idx * sz + off + vs.length ≤ c.size := by omega
  refine ⟨fun x hx => ?_, by rw [splA_size _ _ _ hb]; simpa using e2, fun i x j z v hx hz hv' => ?_⟩
  · rcases List.mem_or_eq_of_mem_set hx with h1 | h1
    · exact e1 x h1
    · subst h1; exact hy
  · rw [splA_get _ _ _ hb] at hv'
    simp only [Nat.zero_add] at hv'
    by_cases hne : i = idx
    · subst hne
      rw [List.getElem?_set_self hi] at hx
      injection hx with hx; subst hx
      refine hr j z v hz ?_
      by_cases q1 : j < off
      · rw [if_pos (by omega)] at hv'; rw [if_pos q1]; exact hv'
      · rw [if_neg (by omega)] at hv'
        by_cases q2 : j < off + vs.length
        · rw [if_pos (by omega)] at hv'; rw [if_neg q1, if_pos q2, ← hv']; congr 1; omega
        · rw [if_neg (by omega)] at hv'; rw [if_neg q1, if_neg q2]; exact hv'
    · rw [List.getElem?_set_ne (fun h => hne h.symm)] at hx
      have hxl := (e1 x (List.mem_iff_getElem?.2 ⟨i, hx⟩)).1
      have hj : j < sz := by have := (List.getElem?_eq_some_iff.1 hz).1; omega
      have hv2 : c[i * sz + j]? = some v := by
        rcases Nat.lt_or_ge i idx with q | q
        · have := Nat.mul_le_mul_right sz (show i + 1 ≤ idx from q)
          rw [Nat.add_mul] at this
          rw [if_pos (by omega)] at hv'; exact hv'
        · have := Nat.mul_le_mul_right sz (show idx + 1 ≤ i by omega)
          rw [Nat.add_mul] at this
          rw [if_neg (by omega), if_neg (by omega)] at hv'; exact hv'
      exact (e3 i x j z v hx hz (by simpa using hv2)).mono hm

theorem updO_one (O : Tab) (i : Nat) (p : PObj) : updO O [(i, p)] = setT O i (some p) := rfl

theorem updO_other {i : Nat} : ∀ (u : List (Nat × PObj)) (O : Tab), (u.all fun p => !(Nat.beq p.1 i)) = true → updO O u i = O i := by
  intro u
  induction u with
  | nil => intro O _; rfl
  | cons p u ih =>
    intro O h
    simp only [List.all_cons, Bool.and_eq_true, Bool.not_eq_true'] at h
    have : i ≠ p.1 := fun e => by rw [nbT e.symm] at h; simp at h
    have e2 := ih (setT O p.1 (some p.2)) h.2
    simp only [updO, List.foldl_cons] at e2 ⊢
    rw [e2, setT_ne _ _ this]

theorem store_ok {κ : Kap} {φ : Phi} {w : World} {s : SSt} {a : Act} (F : FRel κ φ w s a) {t : Nat} {x y : RV} {v u : Value} {res : Res}
    (hx : exStore (Env.of P) s.O t x y = some res) (hc : ∀ b ∈ res.conds, b = true) (r : RVR κ φ s.O w.heap x v) (r2 : RVR κ φ s.O w.heap y u) :
    OutU P κ φ w s a res.upd (Instr.storeAt t v u) := by
  unfold exStore at hx
  cases hz : (Env.of P).size t with
  | none => rw [hz] at hx; simp at hx
  | some z =>
    rw [hz] at hx
    cases x <;> simp only at hx <;> try (simp at hx; done)
    case ptr i off =>
      cases r with
      | ptr hφ =>
        rename_i b
        have ho := F.objs i
        cases hO : s.O i with
        | none => rw [hO] at hx; simp at hx
        | some p =>
          rw [hO] at hx ho
          cases p <;> simp only at hx <;> try (simp at hx; done)
          case box ty cs =>
            obtain ⟨b', c, h1, h2, h3, h4, h5, h6⟩ := ho
            rw [h1] at hφ; injection hφ with hφ; subst hφ
            cases hg : (okPart y && Nat.beq y.cells.length z && Nat.ble (off + z) cs.length) with
            | false => rw [hg] at hx; simp at hx
            | true =>
              rw [hg] at hx
              simp only [cond_true, Option.some.injEq] at hx; subst hx
              simp only [Bool.and_eq_true] at hg
              obtain ⟨⟨g1, g2⟩, g3⟩ := hg
              have g2 := nbE g2
              have g3 := Nat.le_of_ble_eq_true g3
              obtain ⟨c1, c2, c3⟩ := rv_cells r2 g1
              have hrun := run_storeAt hz h3 (fzOk00 _) (by rw [c1, g2]) (o := off) (by omega) c2
              have hvl : u.cells.toList.length = z := by simp; omega
              have hsize : (splA c off u.cells.toList).size = c.size := splA_size _ _ _ (by omega)
              obtain ⟨q1, q2, q3⟩ := F.write (p := .box ty (splice cs off y.cells)) (o := .cells (splA c off u.cells.toList) ty (0, 0)) h2 h1
                (fun c0 ty0 fz0 hc0 => by rw [h3] at hc0; injection hc0 with hc0; injection hc0 with e1 e2 e3; subst e1; subst e2; exact ⟨_, _, rfl, hsize⟩)
                (fun n hn => by simp [PObj.len?] at hn)
                (fun M => by
                  refine ⟨b', _, h1, h2, row_heap h3, ?_, fun v hv => ?_, fun j x v hx hv => ?_⟩
                  · rw [hsize, splice_length _ _ _ (by omega)]; exact h4
                  · rcases splA_mem hv with hv | hv
                    · exact h5 v hv
                    · exact c2 v (by simpa using hv)
                  · rw [splice_get _ _ _ (by omega)] at hx
                    rw [splA_get _ _ _ (by omega)] at hv
                    by_cases k1 : j < off
                    · rw [if_pos k1] at hx hv; exact (h6 j x v hx hv).mono M
                    · rw [if_neg k1] at hx hv
                      by_cases k2 : j < off + z
                      · rw [if_pos (by omega)] at hx hv; exact (c3 _ x v hx (by simpa using hv)).mono M
                      · rw [if_neg (by omega)] at hx hv; exact (h6 j x v hx hv).mono M)
              exact ⟨_, κ, φ, hrun, q1, q3, q2.kp⟩
          case arr ty sz els =>
            cases y <;> (try simp only at hx) <;> try (simp at hx; done)
            rename_i y
            cases y <;> (try simp only at hx) <;> try (simp at hx; done)
            rename_i l
            cases hu : (Env.of P).und t with
            | none => rw [hu] at hx; simp at hx
            | some d =>
              rw [hu] at hx
              cases d <;> simp only at hx <;> try (simp at hx; done)
              rename_i n e
              cases hg : (Nat.beq off 0 && Nat.beq l.length z && Nat.beq z (n * sz) && allScal l && Nat.ble 1 sz && ((Env.of P).isAgg e || Nat.beq sz 1)) with
              | false => rw [hg] at hx; simp at hx
              | true =>
                rw [hg] at hx
                simp only [cond_true, Option.some.injEq] at hx; subst hx
                simp only [Bool.and_eq_true, Bool.or_eq_true] at hg
                obtain ⟨⟨⟨⟨⟨g1, g2⟩, g3⟩, g4⟩, g5⟩, g6⟩ := hg
                have := nbE g1; subst this
                have g2 := nbE g2
                have g3 := nbE g3
                have g4 := allScal_spec g4
                have hlen : els.length = n := by simpa using hc
                cases r2 with
                | d hr =>
                  rcases ho with ⟨h1, h2⟩ | ⟨b', c, fz, h1, h2, h3, h4, h5⟩
                  · rw [h1] at hφ; cases hφ
                  · rw [h1] at hφ; injection hφ with hφ; subst hφ
                    obtain ⟨c1, c2, c3⟩ := rv_cells (φ := φ) (O := s.O) (.d hr) rfl
                    have d1 := hr.cells
                    have hle : n * sz ≤ c.size := by have := h5.2.1; rw [hlen] at this; omega
                    have hvl : u.cells.toList.length = z := by simp only [DV.cells] at d1; simp; omega
                    have hrun := run_storeAt hz h3 h4 (by simpa using hvl) (o := 0) (by omega) c2
                    have hsize : (splA c 0 u.cells.toList).size = c.size := splA_size _ _ _ (by omega)
                    obtain ⟨q1, q2, q3⟩ := F.write (p := .arr ty sz (chunks sz ((Env.of P).isAgg e) n l)) (o := .cells (splA c 0 u.cells.toList) ty fz) h2 h1
                      (fun c0 ty0 fz0 hc0 => by rw [h3] at hc0; injection hc0 with hc0; injection hc0 with e1 e2 e3; subst e1; subst e2; exact ⟨_, _, rfl, hsize⟩)
                      (fun m hm => by simp only [PObj.len?, chunks_length, Option.some.injEq] at hm; rw [hO]; simp [PObj.len?]; omega)
                      (fun M => .inr ⟨b', _, fz, h1, h2, row_heap h3, by rw [hsize]; exact h4, by
                        refine chunks_EL (by omega) g4 (by rcases g6 with g6 | g6; exact .inl g6; exact .inr (nbE g6)) (by rw [hsize]; omega) (fun k y' v' hy' hv' => ?_)
                        rw [splA_get _ _ _ (by omega)] at hv'
                        have hkl := (List.getElem?_eq_some_iff.1 hy').1
                        rw [if_neg (by omega), if_pos (by omega)] at hv'
                        exact (d1.2 k y' v' hy' (by simpa using hv')).mono M.imm⟩)
                    exact ⟨_, κ, φ, hrun, q1, q3, q2.kp⟩
    case eptr i sz idx off =>
      cases r with
      | eptr hφ =>
        rename_i b
        cases hO : s.O i with
        | none => rw [hO] at hx; simp at hx
        | some p =>
          rw [hO] at hx
          cases p <;> simp only at hx <;> try (simp at hx; done)
          rename_i ty sz' els
          cases hb : Nat.beq sz' sz with
          | false => rw [hb] at hx; simp at hx
          | true =>
            have := nbE hb; subst this
            rw [hb] at hx
            simp only [cond_true] at hx
            cases htk : tkDV s.O y with
            | none => rw [htk] at hx; simp at hx
            | some pk =>
              obtain ⟨y', uu, cc⟩ := pk
              rw [htk] at hx
              simp only at hx
              cases hall : (uu.all fun p => !(Nat.beq p.1 i)) with
              | false => rw [hall] at hx; simp at hx
              | true =>
                rw [hall] at hx
                simp only [Bool.not_true, cond_false] at hx
                -- what both cases share
                have fin : ∀ (yy : DV), (∀ b ∈ cc, b = true) → idx < els.length → (yy.cells.length = sz' ∧ ∀ q ∈ yy.cells, q.scal = true) → y'.cells.length = z → off + z ≤ sz' → (∀ q ∈ y'.cells, q.scal = true) →
                    (∀ (j : Nat) (q : DV), yy.cells[j]? = some q → (if j < off then (els.getD idx .nilp).cells[j]? else if j < off + z then y'.cells[j - off]? else (els.getD idx .nilp).cells[j]?) = some q) →
                    OutU P κ φ w s a (uu ++ [(i, .arr ty sz' (els.set idx yy))]) (Instr.storeAt t (.pointer (some ⟨b, idx * sz' + off, none⟩)) u) := by
                  intro yy hcc hi hyy hyl hoz hys hjq
                  obtain ⟨κ', F1, M1, R1, _, d1⟩ := tkDV_ok F (Frzd.refl _) htk hcc r2
                  have hO1 : updO s.O uu i = some (.arr ty sz' els) := by rw [updO_other uu s.O hall]; exact hO
                  have ho := F1.objs i
                  simp only [hO1] at ho
                  obtain ⟨d2, d3⟩ := d1.cells
                  rcases ho with ⟨h1, h2⟩ | ⟨b', c, fz, h1, h2, h3, h4, h5⟩
                  · rw [h1] at hφ; cases hφ
                  · rw [h1] at hφ; injection hφ with hφ; subst hφ
                    have hx : els[idx]? = some (els.getD idx .nilp) := by simp [List.getD, hi]
                    obtain ⟨e1, e2, e3, e4⟩ := el_cells h5 hx
                    simp only [Nat.zero_add] at e1 e4
                    have hvl : u.cells.toList.length = z := by simp; omega
                    have hone : ∀ x ∈ u.cells, x.oneCell = true := fun x hx => by
                      obtain ⟨k, hk⟩ := Array.mem_iff_getElem?.1 hx
                      have hlt := (Array.getElem?_eq_some_iff.1 hk).1
                      have hkc : k < y'.cells.length := by omega
                      exact (d3 k y'.cells[k] x (by simp [hkc]) hk).oneCell (hys _ (by simp))
                    have hrun := run_storeAt hz h3 h4 (by simpa using hvl) (o := idx * sz' + off) (by omega) hone
                    have hsize : (splA c (idx * sz' + off) u.cells.toList).size = c.size := splA_size _ _ _ (by omega)
                    obtain ⟨q1, q2, q3⟩ := F1.write (p := .arr ty sz' (els.set idx yy)) (o := .cells (splA c (idx * sz' + off) u.cells.toList) ty fz) h2 h1
                      (fun c0 ty0 fz0 hc0 => by rw [h3] at hc0; injection hc0 with hc0; injection hc0 with e1 e2 e3; subst e1; subst e2; exact ⟨_, _, rfl, hsize⟩)
                      (fun m hm => by simp only [PObj.len?, List.length_set, Option.some.injEq] at hm; simp only [hO1]; simp [PObj.len?]; omega)
                      (fun M => .inr ⟨b', _, fz, h1, h2, row_heap h3, by rw [hsize]; exact h4, by
                        refine h5.set M.imm hi (by omega) hyy (fun j q v' hq hv' => ?_)
                        have hj := hjq j q hq
                        by_cases k1 : j < off
                        · rw [if_pos k1] at hj hv'; exact (e4 j q v' hj hv').mono M.imm
                        · rw [if_neg k1] at hj hv'
                          by_cases k2 : j < off + z
                          · rw [if_pos k2] at hj; rw [if_pos (by omega)] at hv'; exact (d3 _ q v' hj (by simpa using hv')).mono M.imm
                          · rw [if_neg k2] at hj; rw [if_neg (by omega)] at hv'; exact (e4 j q v' hj hv').mono M.imm⟩)
                    refine ⟨_, κ', φ, hrun, ?_, R1.trans q3, ?_⟩
                    · rw [updO_append]; exact q1
                    · rw [updO_append]; exact M1.kp.trans q2.kp
                cases hg : (Nat.beq off 0 && Nat.beq z sz' && Nat.beq y'.cells.length sz' && allScal y'.cells) with
                | true =>
                  rw [hg] at hx
                  simp only [cond_true, Option.some.injEq] at hx; subst hx
                  simp only [Bool.and_eq_true] at hg
                  obtain ⟨⟨⟨g1, g2⟩, g3⟩, g4⟩ := hg
                  have := nbE g1; subst this
                  have g2 := nbE g2
                  have g3 := nbE g3
                  have g4 := allScal_spec g4
                  refine fin y' (fun b hb => hc b (by simp [hb])) (by simpa using hc (decide (idx < els.length)) (by simp)) ⟨g3, g4⟩ (by omega) (by omega) g4 (fun j q hq => ?_)
                  have hj := (List.getElem?_eq_some_iff.1 hq).1
                  rw [if_neg (by omega), if_pos (by omega)]; simpa using hq
                | false =>
                  rw [hg] at hx
                  simp only [cond_false] at hx
                  cases hg2 : (Nat.beq y'.cells.length z && allScal y'.cells) with
                  | false => rw [hg2] at hx; simp at hx
                  | true =>
                    rw [hg2] at hx
                    simp only [cond_true, Option.some.injEq] at hx; subst hx
                    simp only [Bool.and_eq_true] at hg2
                    obtain ⟨g1, g3⟩ := hg2
                    have g1 := nbE g1
                    have g2 := Nat.le_of_ble_eq_true (hc (Nat.ble (off + z) (els.getD idx .nilp).cells.length) (by simp))
                    have g3 := allScal_spec g3
                    have hi : idx < els.length := by simpa using hc (decide (idx < els.length)) (by simp)
                    have hx : els[idx]? = some (els.getD idx .nilp) := by simp [List.getD, hi]
                    generalize els.getD idx .nilp = ex at *
                    have hl : ex.cells.length = sz' ∧ ∀ q ∈ ex.cells, q.scal = true := by
                      have ho := F.objs i
                      rw [hO] at ho
                      rcases ho with ⟨h1, h2⟩ | ⟨b', c, fz, h1, h2, h3, h4, h5⟩
                      · subst h2; simp at hi
                      · exact h5.1 _ (List.mem_iff_getElem?.2 ⟨idx, hx⟩)
                    generalize ex.cells = l at *
                    have hsl : (splice l off y'.cells).length = l.length := splice_length _ _ _ (by omega)
                    refine fin (.agg (splice l off y'.cells)) (fun b hb => hc b (by simp [hb])) hi ⟨by show (splice l off y'.cells).length = sz'; omega, fun q hq => ?_⟩ g1 (by omega) g3 (fun j q hq => ?_)
                    · have hq : q ∈ splice l off y'.cells := hq
                      simp only [splice, List.mem_append] at hq
                      rcases hq with (hq | hq) | hq
                      · exact hl.2 q (List.mem_of_mem_take hq)
                      · exact g3 q hq
                      · exact hl.2 q (List.mem_of_mem_drop hq)
                    · have hq : (splice l off y'.cells)[j]? = some q := hq
                      rw [splice_get _ _ _ (by omega), g1] at hq
                      exact hq

end Go.Am

/-
  The abstract machine: each operation is sound (new variables, structs and slices that are built).
-/
namespace Go.Am
set_option linter.unusedSectionVars false
variable {P : Program} [Gl]

theorem oneOf_DR {κ : Kap} {h : Heap} {v : Value} {x : DV} (e : oneOf v = some x) : DR κ h x v ∧ x.scal = true := by
  cases v <;> simp only [oneOf] at e <;> try (simp at e; done)
  case bool b => injection e with e; subst e; exact ⟨.bool b, rfl⟩
  case int k n => injection e with e; subst e; exact ⟨.int k n, rfl⟩
  case string s => injection e with e; subst e; exact ⟨by have := DR.str (κ := κ) (h := h) s.data.toList; simpa using this, rfl⟩
  case pointer a => cases a <;> simp at e; subst e; exact ⟨.nilp, rfl⟩
  case slice a l c =>
    cases a <;> simp only at e
    · cases hb : (Nat.beq l 0 && Nat.beq c 0) with
      | false => rw [hb] at e; simp at e
      | true =>
        rw [hb] at e
        simp only [cond_true, Option.some.injEq] at e; subst e
        simp only [Bool.and_eq_true] at hb
        have := nbE hb.1; subst this
        exact ⟨.lst0 (fun _ => ⟨nbE hb.2, fun _ => rfl⟩), rfl⟩
    · simp at e
  case map a => cases a <;> simp at e; subst e; exact ⟨.nilm, rfl⟩
  case nilFunc => injection e with e; subst e; exact ⟨.nilf, rfl⟩
  case nilIface => injection e with e; subst e; exact ⟨.nili, rfl⟩

theorem oneAll_DR {κ : Kap} {h : Heap} : ∀ (l : List Value) (r : List DV), oneAll l = some r → r.length = l.length ∧ (∀ y ∈ r, y.scal = true) ∧ ∀ (i : Nat) (x : DV) (v : Value), r[i]? = some x → l[i]? = some v → DR κ h x v
  | [], r, e => by simp [oneAll] at e; subst e; simp
  | v :: l, r, e => by
    simp only [oneAll] at e
    cases h1 : oneOf v with
    | none => rw [h1] at e; simp at e
    | some x =>
      cases h2 : oneAll l with
      | none => rw [h1, h2] at e; simp at e
      | some q =>
        rw [h1, h2] at e; simp at e; subst e
        obtain ⟨g1, g2, g3⟩ := oneAll_DR (κ := κ) (h := h) l q h2
        obtain ⟨k1, k2⟩ := oneOf_DR (κ := κ) (h := h) h1
        refine ⟨by simp [g1], fun y hy => ?_, fun i x' v' hx hv => ?_⟩
        · rcases List.mem_cons.1 hy with rfl | hy
          · exact k2
          · exact g2 y hy
        · cases i with
          | zero => simp at hx hv; subst hx; subst hv; exact k1
          | succ i => exact g3 i x' v' (by simpa using hx) (by simpa using hv)

theorem ofVal_DR {κ : Kap} {h : Heap} {v : Value} {x : DV} (e : DV.ofVal v = some x) : DR κ h x v := by
  by_cases ha : ∃ cs, v = .agg cs
  · obtain ⟨cs, rfl⟩ := ha
    simp only [DV.ofVal] at e
    cases h1 : oneAll cs.toList with
    | none => rw [h1] at e; simp at e
    | some l =>
      rw [h1] at e; simp at e; subst e
      obtain ⟨g1, g2, g3⟩ := oneAll_DR (κ := κ) (h := h) _ _ h1
      exact .agg (by simpa using g1.symm) g2 (fun i x v hx hv => g3 i x v hx (by simpa using hv))
  · by_cases ht : ∃ cs, v = .tuple cs
    · obtain ⟨cs, rfl⟩ := ht
      simp only [DV.ofVal] at e
      cases h1 : oneAll cs.toList with
      | none => rw [h1] at e; simp at e
      | some l =>
        rw [h1] at e; simp at e; subst e
        obtain ⟨g1, g2, g3⟩ := oneAll_DR (κ := κ) (h := h) _ _ h1
        exact .tup (by simpa using g1.symm) (fun i x v hx hv => g3 i x v hx (by simpa using hv))
    · have : DV.ofVal v = oneOf v := by cases v <;> first | rfl | exact absurd ⟨_, rfl⟩ ha | exact absurd ⟨_, rfl⟩ ht
      rw [this] at e
      exact (oneOf_DR e).1

theorem zero_of {t : Nat} {z : DV} (h : (Env.of P).zero t = some z) : ∃ i v, P.info? t = some i ∧ i.zero = some v ∧ DV.ofVal v = some z := by
  simp only [Env.of] at h
  cases e : P.info? t with
  | none => rw [e] at h; simp at h
  | some i =>
    rw [e] at h; simp only at h
    cases e2 : i.zero with
    | none => rw [e2] at h; simp at h
    | some v => rw [e2] at h; exact ⟨i, v, rfl, e2, h⟩

theorem run_zeroValue {t : Nat} {z : DV} (h : (Env.of P).zero t = some z) (w : World) : ∃ v, (zeroValue t).run P w = .ok v w ∧ DV.ofVal v = some z := by
  obtain ⟨i, v, h1, h2, h3⟩ := zero_of h
  exact ⟨v, by simp [zeroValue, typeInfo, h1, h2], h3⟩

theorem run_newVar (t : Nat) (v : Value) (w : World) : (newVar t v).run P w = .ok ⟨w.heap.size, 0, none⟩ { w with heap := w.heap.push (.cells v.cells t (0, 0)) } := by
  simp [newVar, newRow]

theorem alloc_ok {κ : Kap} {φ : Phi} {w : World} {s : SSt} {a : Act} (F : FRel κ φ w s a) {sl t : Nat} {x : RV} {v : Value} {res : Res}
    (hx : exAlloc (Env.of P) s.O sl t x = some res) (r : RVR κ φ s.O w.heap x v) :
    Out P κ φ w s a res.val res.upd (do pure (.pointer (some (← newVar t v)))) := by
  unfold exAlloc at hx
  cases hO : s.O sl with
  | some p => rw [hO] at hx; simp at hx
  | none =>
    rw [hO] at hx; simp only at hx
    cases hn : newObj (Env.of P) t x with
    | none => rw [hn] at hx; simp at hx
    | some p3 =>
      obtain ⟨p, u, cc⟩ := p3
      rw [hn] at hx
      simp only [Option.some.injEq] at hx; subst hx
      have hrun : (do pure (Value.pointer (some (← newVar t v))) : Sem Value).run P w = .ok (.pointer (some ⟨w.heap.size, 0, none⟩)) { w with heap := w.heap.push (.cells v.cells t (0, 0)) } := by
        simp [run_newVar]
      have fin : u = [] → (Mono κ φ s.O w.heap (setK κ w.heap.size (.own sl)) (setP φ sl (.at w.heap.size)) (setT s.O sl (some p)) (w.heap.push (.cells v.cells t (0, 0))) →
          OR (setK κ w.heap.size (.own sl)) (setP φ sl (.at w.heap.size)) (setT s.O sl (some p)) (w.heap.push (.cells v.cells t (0, 0))) sl (some p)) →
          Out P κ φ w s a (.ptr sl 0) ((sl, p) :: u) (do pure (.pointer (some (← newVar t v)))) := by
        intro hu hor
        subst hu
        obtain ⟨q1, q2, q3⟩ := F.alloc (i := sl) (p := p) (o := .cells v.cells t (0, 0)) (w' := { w with heap := w.heap.push (.cells v.cells t (0, 0)) }) rfl hO hor
        exact ⟨_, _, _, _, hrun, q1, .ptr (setP_same _ _ _), q3, q2.kp⟩
      unfold newObj at hn
      cases hz : (Env.of P).size t with
      | none => rw [hz] at hn; simp at hn
      | some z =>
        rw [hz] at hn; simp only at hn
        by_cases harr : ∃ n e, (Env.of P).und t = some (.array n e)
        · obtain ⟨n, e, hu⟩ := harr
          rw [hu] at hn; simp only at hn
          cases x <;> (try simp only at hn) <;> try (simp at hn; done)
          rename_i y
          cases y <;> (try simp only at hn) <;> try (simp at hn; done)
          rename_i cs
          cases hze : (Env.of P).size e with
          | none => rw [hze] at hn; simp at hn
          | some sz =>
            rw [hze] at hn; simp only at hn
            cases hg : (Nat.beq cs.length z && Nat.beq z (n * sz) && allScal cs && Nat.ble 1 sz && ((Env.of P).isAgg e || Nat.beq sz 1)) with
            | false => rw [hg] at hn; simp at hn
            | true =>
              rw [hg] at hn
              simp only [cond_true, Option.some.injEq, Prod.mk.injEq] at hn
              obtain ⟨rfl, rfl, rfl⟩ := hn
              simp only [Bool.and_eq_true, Bool.or_eq_true] at hg
              obtain ⟨⟨⟨⟨g1, g2⟩, g3⟩, g4⟩, g5⟩ := hg
              have g1 := nbE g1
              have g2 := nbE g2
              have g3 := allScal_spec g3
              cases r with
              | d hr =>
                obtain ⟨d1, d2⟩ := hr.cells
                simp only [DV.cells] at d1 d2
                refine fin rfl (fun M => .inr ⟨_, _, (0, 0), setP_same _ _ _, setK_same _ _ _, heap_push_eq _ _, fzOk00 _, ?_⟩)
                exact chunks_EL (by omega) g3 (by rcases g5 with g5 | g5; exact .inl g5; exact .inr (nbE g5)) (by omega) (fun k y v' hy hv' => (d2 k y v' hy (by simpa using hv')).mono M.imm)
        · have hn' : (bif Nat.beq x.cells.length z then
              match x with
              | .d (.tup _) => none
              | .tup _ => none
              | .bot => none
              | .und => none
              | _ => some (PObj.box t x.cells, ([] : List (Nat × PObj)), ([] : List Bool))
            else none) = some (p, u, cc) := by
            cases hu : (Env.of P).und t with
            | none => rw [hu] at hn; exact hn
            | some d => rw [hu] at hn; cases d <;> first | exact hn | exact absurd ⟨_, _, hu⟩ harr
          cases hb : Nat.beq x.cells.length z with
          | false => rw [hb] at hn'; simp at hn'
          | true =>
            rw [hb] at hn'
            simp only [cond_true] at hn'
            have hk : okPart x = true ∧ p = .box t x.cells ∧ u = [] := by
              cases x <;> (try simp only at hn') <;> (try (simp at hn'; done)) <;>
                first
                | (simp only [Option.some.injEq, Prod.mk.injEq] at hn'; exact ⟨rfl, hn'.1.symm, hn'.2.1.symm⟩)
                | (rename_i y; cases y <;> (try simp only at hn') <;> (try (simp at hn'; done)) <;> (simp only [Option.some.injEq, Prod.mk.injEq] at hn'; exact ⟨rfl, hn'.1.symm, hn'.2.1.symm⟩))
            obtain ⟨k1, rfl, k3⟩ := hk
            obtain ⟨c1, c2, c3⟩ := rv_cells r k1
            exact fin k3 (fun M => ⟨_, _, setP_same _ _ _, setK_same _ _ _, heap_push_eq _ _, c1, c2, fun j x' v' hx' hv' => (c3 j x' v' hx' hv').mono M⟩)

theorem fold_set : ∀ (vs : List Value) (k : Nat) (c : Array Value) (o : Nat), o + k + vs.length ≤ c.size →
    (vs.zipIdx k).foldl (fun cs p => cs.setIfInBounds (o + p.2) p.1) c = splA c (o + k) vs
  | [], k, c, o, _ => by simp [splA, splice]
  | v :: vs, k, c, o, h => by
    simp only [List.zipIdx_cons, List.foldl_cons]
    rw [fold_set vs (k + 1) (c.setIfInBounds (o + k) v) o (by simp at h ⊢; omega)]
    unfold splA
    rw [Array.toList_setIfInBounds, ← Nat.add_assoc, splice_cons _ _ _ _ (by simpa using h)]

theorem fill_cons {place : Nat → Option (Nat × Nat)} {c : Array Value} {i off size : Nat} {v : Value} {r : List (Nat × Value)} (hp : place i = some (off, size)) (hv : v.cells.size = size) (hc : off + size ≤ c.size) :
    Instr.fill place c ((i, v) :: r) = Instr.fill place (splA c off v.cells.toList) r := by
  simp only [Instr.fill, hp]
  have h1 : (decide (v.cells.size ≠ size) || decide (off + v.cells.size > c.size)) = false := by simp [hv]; omega
  rw [if_neg (by simpa using h1)]
  have := fold_set v.cells.toList 0 c off (by simp; omega)
  congr 1
  rw [← Array.foldl_toList]
  simpa using this

theorem laid_ok {κ : Kap} {φ : Phi} {O : Tab} {h : Heap} {place size : Nat → Option (Nat × Nat)} (hps : ∀ i q, size i = some q → place i = some q) :
    ∀ (parts : List (Nat × RV)) (pv : List (Nat × Value)) (z cs : List RV) (c : Array Value), laid size z parts = some cs → parts.all (fun p => okPart p.2) = true →
      c.size = z.length → (∀ v ∈ c, v.oneCell = true) → (∀ (j : Nat) (x : RV) (v : Value), z[j]? = some x → c[j]? = some v → RVR κ φ O h x v) →
      pv.length = parts.length → (∀ (k : Nat) (p : Nat × RV) (q : Nat × Value), parts[k]? = some p → pv[k]? = some q → p.1 = q.1 ∧ RVR κ φ O h p.2 q.2) →
      ∃ c', Instr.fill place c pv = some c' ∧ c'.size = cs.length ∧ (∀ v ∈ c', v.oneCell = true) ∧ (∀ (j : Nat) (x : RV) (v : Value), cs[j]? = some x → c'[j]? = some v → RVR κ φ O h x v)
  | [], pv, z, cs, c, hl, _, h1, h2, h3, h4, _ => by
    simp [laid] at hl; subst hl
    have : pv = [] := List.eq_nil_of_length_eq_zero (by simpa using h4)
    subst this
    exact ⟨c, rfl, h1, h2, h3⟩
  | (i, x) :: parts, pv, z, cs, c, hl, hok, h1, h2, h3, h4, h5 => by
    cases pv with
    | nil => simp at h4
    | cons q pv =>
      obtain ⟨i', v⟩ := q
      obtain ⟨e1, e2⟩ := h5 0 (i, x) (i', v) rfl rfl
      simp only at e1 e2; subst e1
      simp only [List.all_cons, Bool.and_eq_true] at hok
      obtain ⟨c1, c2, c3⟩ := rv_cells e2 hok.1
      simp only [laid] at hl
      cases hs : size i with
      | none => rw [hs] at hl; simp at hl
      | some p =>
        obtain ⟨off, n⟩ := p
        rw [hs] at hl; simp only at hl
        cases hg : (Nat.beq x.cells.length n && Nat.ble (off + n) z.length) with
        | false => rw [hg] at hl; simp at hl
        | true =>
          rw [hg] at hl
          simp only [cond_true] at hl
          simp only [Bool.and_eq_true] at hg
          have g1 := nbE hg.1
          have g2 := Nat.le_of_ble_eq_true hg.2
          rw [fill_cons (hps i _ hs) (by omega) (by omega)]
          have esp : z.take off ++ x.cells ++ z.drop (off + n) = splice z off x.cells := by simp [splice, g1]
          rw [esp] at hl
          have hvl : v.cells.toList.length = n := by simp; omega
          refine laid_ok hps parts pv _ cs _ hl hok.2 (by rw [splA_size _ _ _ (by omega), splice_length _ _ _ (by omega)]; exact h1) (fun u hu => ?_) (fun j y u hy hu => ?_) (by simpa using h4) (fun k p q hp hq => h5 (k + 1) p q (by simpa using hp) (by simpa using hq))
          · rcases splA_mem hu with hu | hu
            · exact h2 u hu
            · exact c2 u (by simpa using hu)
          · rw [splice_get _ _ _ (by omega)] at hy
            rw [splA_get _ _ _ (by omega)] at hu
            by_cases k1 : j < off
            · rw [if_pos k1] at hy hu; exact h3 j y u hy hu
            · rw [if_neg k1] at hy hu
              by_cases k2 : j < off + n
              · rw [if_pos (by omega)] at hy hu; exact c3 _ y u hy (by simpa using hu)
              · rw [if_neg (by omega)] at hy hu; exact h3 j y u hy hu

theorem places_of {fs : Array Field} (hall : fs.toList.all (fun f => ((Env.of P).size f.type).isSome) = true) :
    ∃ places, fs.toList.mapM (fun f => (P.info? f.type).map fun i => (f.offset, i.size)) = some places ∧ ∀ i q, fieldSpot (Env.of P) fs i = some q → places[i]? = some q := by
  have key : ∀ (l : List Field), l.all (fun f => ((Env.of P).size f.type).isSome) = true → ∃ places, l.mapM (fun f => (P.info? f.type).map fun i => (f.offset, i.size)) = some places ∧
      ∀ (i : Nat) (f : Field) (n : Nat), l[i]? = some f → (Env.of P).size f.type = some n → places[i]? = some (f.offset, n) := by
    intro l
    induction l with
    | nil => intro _; exact ⟨[], rfl, by simp⟩
    | cons f l ih =>
      intro hl
      simp only [List.all_cons, Bool.and_eq_true] at hl
      obtain ⟨places, h1, h2⟩ := ih hl.2
      obtain ⟨n, hn⟩ := Option.isSome_iff_exists.1 hl.1
      obtain ⟨i, d, hi, hi2, _⟩ := size_of hn
      refine ⟨(f.offset, n) :: places, by simp [List.mapM_cons, hi, hi2, h1], fun k g m hg hm => ?_⟩
      cases k with
      | zero => simp at hg; subst hg; rw [hn] at hm; injection hm with hm; subst hm; rfl
      | succ k => simpa using h2 k g m (by simpa using hg) hm
  obtain ⟨places, h1, h2⟩ := key fs.toList hall
  refine ⟨places, h1, fun i q hq => ?_⟩
  unfold fieldSpot at hq
  cases hf : fs[i]? with
  | none => rw [hf] at hq; simp at hq
  | some f =>
    rw [hf] at hq; simp only at hq
    cases hn : (Env.of P).size f.type with
    | none => rw [hn] at hq; simp at hq
    | some n => rw [hn] at hq; simp at hq; subst hq; exact h2 i f n (by simpa using hf) hn

theorem build_ok {κ : Kap} {φ : Phi} {w : World} {s : SSt} {a : Act} (F : FRel κ φ w s a) {t : Nat} {parts : List (Nat × RV)} {pv : Array (Nat × Value)} {res : Res}
    (hx : exBuild (Env.of P) t parts = some res) (hl : pv.size = parts.length)
    (hr : ∀ (k : Nat) (p : Nat × RV) (q : Nat × Value), parts[k]? = some p → pv[k]? = some q → p.1 = q.1 ∧ RVR κ φ s.O w.heap p.2 q.2) :
    Out P κ φ w s a res.val res.upd (Instr.build t pv) := by
  unfold exBuild at hx
  cases hall : (parts.all fun p => okPart p.2) with
  | false => rw [hall] at hx; simp at hx
  | true =>
    rw [hall] at hx; simp only [cond_true] at hx
    cases hz : (Env.of P).zero t with
    | none => rw [hz] at hx; simp at hx
    | some z =>
      obtain ⟨it, zv, hi, hzv, hof⟩ := zero_of hz
      have hzd : DR κ w.heap z zv := ofVal_DR hof
      have hzok : okPart (.d z) = true → (zv.cells.size = (z.cells.map RV.d).length ∧ (∀ u ∈ zv.cells, u.oneCell = true) ∧ ∀ (j : Nat) (y : RV) (u : Value), (z.cells.map RV.d)[j]? = some y → zv.cells[j]? = some u → RVR κ φ s.O w.heap y u) := fun h => rv_cells (.d hzd) h
      cases hu : (Env.of P).und t with
      | none => rw [hz, hu] at hx; simp at hx
      | some d =>
        have hu' : P.underlying t = some d := hu
        have fin : ∀ (place size : Nat → Option (Nat × Nat)) (cs : List RV), (∀ i q, size i = some q → place i = some q) → laid size (z.cells.map .d) parts = some cs → okPart (.d z) = true →
            (∀ cells, Instr.fill place zv.cells pv.toList = some cells → P.built t pv.toList = some cells) → Out P κ φ w s a (mkAgg cs) [] (Instr.build t pv) := by
          intro place size cs hps hlaid hok hbuilt
          obtain ⟨z1, z2, z3⟩ := hzok hok
          obtain ⟨c', f1, f2, f3, f4⟩ := laid_ok (κ := κ) (φ := φ) (O := s.O) (h := w.heap) hps parts pv.toList _ cs zv.cells hlaid hall z1 z2 z3 (by simpa using hl) (fun k p q hp hq => hr k p q hp (by simpa using hq))
          exact Out.pure F (run_build w t pv c' (hbuilt c' f1)) (mkAgg_ok f2 f3 f4)
        cases d <;> rw [hz, hu] at hx <;> simp only at hx <;> try (simp at hx; done)
        case struct fs =>
          cases hsz : ((fs.toList.all fun f => ((Env.of P).size f.type).isSome) && okPart (.d z)) with
          | false => rw [hsz] at hx; simp at hx
          | true =>
            rw [hsz] at hx; simp only [cond_true] at hx
            simp only [Bool.and_eq_true] at hsz
            obtain ⟨places, hp1, hp2⟩ := places_of hsz.1
            cases hlaid : laid (fieldSpot (Env.of P) fs) (z.cells.map .d) parts with
            | none => rw [hlaid] at hx; simp at hx
            | some cs =>
              rw [hlaid] at hx; simp only [Option.some.injEq] at hx; subst hx
              exact fin (fun i => places.toArray[i]?) _ cs (fun i q hq => by simpa using hp2 i q hq) hlaid hsz.2 (fun cells hc => by
                simp only [Program.built, hi, hu', hzv, hp1]; exact hc)
        case array n e =>
          cases hse : (Env.of P).size e with
          | none => rw [hse] at hx; simp at hx
          | some sz =>
            rw [hse] at hx; simp only at hx
            cases hok : okPart (.d z) with
            | false => rw [hok] at hx; simp at hx
            | true =>
              rw [hok] at hx; simp only [cond_true] at hx
              obtain ⟨ie, _, hie, hie2, _⟩ := size_of hse
              cases hlaid : laid (fun i => some (i * sz, sz)) (z.cells.map .d) parts with
              | none => rw [hlaid] at hx; simp at hx
              | some cs =>
                rw [hlaid] at hx; simp only [Option.some.injEq] at hx; subst hx
                exact fin (fun i => some (i * ie.size, ie.size)) _ cs (fun i q hq => by rw [hie2]; exact hq) hlaid hok (fun cells hc => by
                  simp only [Program.built, hi, hu', hzv, hie]; exact hc)

end Go.Am

/-
  The abstract machine: each operation is sound (places and parts; slices that are built, cut, appended to).
-/
namespace Go.Am
set_option linter.unusedSectionVars false
variable {P : Program} [Gl]

theorem fieldSpot_of {fs : Array Field} {f off n : Nat} (h : fieldSpot (Env.of P) fs f = some (off, n)) :
    ∃ fl, fs[f]? = some fl ∧ (Env.of P).size fl.type = some n ∧ fl.offset = off := by
  unfold fieldSpot at h
  cases hf : fs[f]? with
  | none => rw [hf] at h; simp at h
  | some fl =>
    rw [hf] at h; simp only at h
    cases hn : (Env.of P).size fl.type with
    | none => rw [hn] at h; simp at h
    | some m => rw [hn] at h; simp at h; exact ⟨fl, rfl, by rw [hn, h.2], h.1⟩

theorem fieldAddr_ok {κ : Kap} {φ : Phi} {w : World} {s : SSt} {a : Act} (F : FRel κ φ w s a) {t f : Nat} {x : RV} {v : Value} {res : Res}
    (hx : exFieldAddr (Env.of P) t x f = some res) (r : RVR κ φ s.O w.heap x v) : Out P κ φ w s a res.val res.upd (Instr.fieldAt t v f) := by
  unfold exFieldAddr at hx
  cases hu : (Env.of P).und t with
  | none => rw [hu] at hx; simp at hx
  | some d =>
    rw [hu] at hx
    cases d <;> (try simp only at hx) <;> try (simp at hx; done)
    rename_i fs
    cases hs : fieldSpot (Env.of P) fs f with
    | none => rw [hs] at hx; simp at hx
    | some p =>
      obtain ⟨off, n⟩ := p
      rw [hs] at hx; simp only at hx
      obtain ⟨fl, h1, h2, h3⟩ := fieldSpot_of hs
      cases hb : Nat.ble 1 n with
      | false => rw [hb] at hx; simp at hx
      | true =>
        rw [hb] at hx; simp only [cond_true] at hx
        have hn := Nat.le_of_ble_eq_true hb
        have hrun : ∀ b o, (Instr.fieldAt t (.pointer (some ⟨b, o, none⟩)) f).run P w = .ok (.pointer (some ⟨b, o + off, none⟩)) w := by
          intro b o
          simp only [Instr.fieldAt, Sem.run_bind, run_und hu, Result.andThen_ok, h1, Instr.sureAddr, Sem.run_pure, fieldPlace, run_sizeOf' h2]
          rw [if_neg (by omega)]
          simp [add_at, h3]
        cases x <;> (try simp only at hx) <;> try (simp at hx; done)
        case ptr i o =>
          injection hx with hx; subst hx
          cases r with
          | ptr hφ => exact Out.pure F (hrun _ _) (.ptr hφ)
        case eptr i sz idx o =>
          injection hx with hx; subst hx
          cases r with
          | eptr hφ => exact Out.pure F (hrun _ _) (by rw [Nat.add_assoc]; exact .eptr hφ)
        case iptr y o =>
          injection hx with hx; subst hx
          cases r with
          | iptr g1 g2 g3 g4 g5 => exact Out.pure F (hrun _ _) (by rw [Nat.add_assoc]; exact .iptr g1 g2 g3 g4 g5)

theorem run_part {w : World} {t z off : Nat} {cs : Array Value} (hz : (Env.of P).size t = some z) (hn : off + z ≤ cs.size) (h1 : (Env.of P).isAgg t = false → z = 1) :
    (part t cs off).run P w = .ok (if (Env.of P).isAgg t then .agg (cs.extract off (off + z)) else cs.getD off undef) w := by
  simp only [part, Sem.run_bind, run_isAgg' hz, Result.andThen_ok]
  cases e : (Env.of P).isAgg t with
  | true => simp [run_sizeOf' hz]
  | false =>
    have := h1 e; subst this
    have : off < cs.size := by omega
    simp [this, Array.getD]

theorem field_ok {κ : Kap} {φ : Phi} {w : World} {s : SSt} {a : Act} (F : FRel κ φ w s a) {t f : Nat} {x : RV} {v : Value} {res : Res}
    (hx : exField (Env.of P) t x f = some res) (r : RVR κ φ s.O w.heap x v) : Out P κ φ w s a res.val res.upd (Instr.field t v f) := by
  unfold exField at hx
  cases hu : (Env.of P).und t with
  | none => rw [hu] at hx; simp at hx
  | some d =>
    rw [hu] at hx
    cases d <;> (try simp only at hx) <;> try (simp at hx; done)
    rename_i fs
    cases hf : fs[f]? with
    | none => rw [hf] at hx; simp at hx
    | some fl =>
      rw [hf] at hx; simp only at hx
      cases hz : (Env.of P).size fl.type with
      | none => rw [hz] at hx; simp at hx
      | some z =>
        rw [hz] at hx; simp only at hx
        cases x <;> (try simp only at hx) <;> try (simp at hx; done)
        case d y =>
          cases y <;> (try simp only at hx) <;> try (simp at hx; done)
          rename_i cs
          cases hcut : cut (Env.of P) fl.type z cs fl.offset with
          | none => rw [hcut] at hx; simp at hx
          | some y =>
            rw [hcut] at hx; simp only [Option.some.injEq] at hx; subst hx
            cases r with
            | d hr =>
              cases hr with
              | agg hl hs hr =>
                rename_i vs
                obtain ⟨c1, c2, c3⟩ := cut_ok hcut (o := 0) (c := vs) (by omega) hs (fun j y v hy hv => hr j y v hy (by simpa using hv))
                refine Out.pure F (v := if (Env.of P).isAgg fl.type then .agg (vs.extract fl.offset (fl.offset + z)) else vs.getD fl.offset undef) ?_ (.d (by simpa using c1))
                simp only [Instr.field, Sem.run_bind, run_und hu, Result.andThen_ok, hf, asAgg, Sem.run_pure]
                exact run_part hz (by omega) c2
        case agg cs =>
          cases r with
          | agg hl hs hr =>
            rename_i vs
            cases hle : Nat.ble (fl.offset + z) cs.length with
            | false => rw [hle] at hx; simp at hx
            | true =>
              have hle' := Nat.le_of_ble_eq_true hle
              rw [hle] at hx; simp only [cond_true] at hx
              cases ha : (Env.of P).isAgg fl.type with
              | true =>
                rw [ha] at hx; simp only [cond_true, Option.some.injEq] at hx; subst hx
                refine Out.pure F (v := .agg (vs.extract fl.offset (fl.offset + z))) ?_ (mkAgg_ok (by simp; omega) (fun v hv => ?_) (fun k x v hx hv => ?_))
                · simp only [Instr.field, Sem.run_bind, run_und hu, Result.andThen_ok, hf, asAgg, Sem.run_pure]
                  have := run_part (w := w) (cs := vs) hz (off := fl.offset) (by omega) (by rw [ha]; simp)
                  rw [ha] at this; simpa using this
                · obtain ⟨k, hk⟩ := Array.mem_iff_getElem?.1 hv
                  rw [Array.getElem?_extract] at hk
                  split at hk
                  · exact hs v (Array.mem_iff_getElem?.2 ⟨_, hk⟩)
                  · simp at hk
                · rw [List.getElem?_take] at hx
                  split at hx
                  · rw [List.getElem?_drop] at hx
                    rw [Array.getElem?_extract] at hv
                    split at hv
                    · exact hr _ x v hx hv
                    · simp at hv
                  · simp at hx
              | false =>
                rw [ha] at hx; simp only [cond_false] at hx
                cases h1' : Nat.beq z 1 with
                | false => rw [h1'] at hx; simp at hx
                | true =>
                  have := nbE h1'; subst this
                  rw [h1'] at hx; simp only [cond_true, Option.some.injEq] at hx; subst hx
                  have hlt : fl.offset < cs.length := by omega
                  have hlt2 : fl.offset < vs.size := by omega
                  refine Out.pure F (v := vs.getD fl.offset undef) ?_ (hr fl.offset _ _ (by simp [List.getD, hlt]) (by simp [Array.getD, hlt2]))
                  simp only [Instr.field, Sem.run_bind, run_und hu, Result.andThen_ok, hf, asAgg, Sem.run_pure]
                  have := run_part (w := w) (cs := vs) hz (off := fl.offset) (by omega) (fun _ => rfl)
                  rw [ha] at this; simpa using this

theorem index_ok {κ : Kap} {φ : Phi} {w : World} {s : SSt} {a : Act} (F : FRel κ φ w s a) {t : Nat} {x i : RV} {v iv : Value} {res : Res}
    (hx : exIndex (Env.of P) t x i = some res) (hc : ∀ b ∈ res.conds, b = true) (r : RVR κ φ s.O w.heap x v) (ri : RVR κ φ s.O w.heap i iv) :
    Out P κ φ w s a res.val res.upd (Instr.index t v iv) := by
  unfold exIndex at hx
  cases i <;> (try simp only at hx) <;> try (simp at hx; done)
  rename_i i
  cases i <;> (try simp only at hx) <;> try (simp at hx; done)
  rename_i k n
  cases ri with
  | d hri =>
  cases hri
  cases hu : (Env.of P).und t with
  | none => rw [hu] at hx; simp at hx
  | some d =>
    rw [hu] at hx
    cases d <;> (try simp only at hx) <;> try (simp at hx; done)
    case string =>
      cases x <;> (try simp only at hx) <;> try (simp at hx; done)
      rename_i y
      cases y <;> (try simp only at hx) <;> try (simp at hx; done)
      rename_i str
      injection hx with hx; subst hx
      have hb : 0 ≤ n ∧ n < (str.length : Int) := by simpa using hc
      cases r with
      | d hr =>
        cases hr
        have hlt : n.toNat < str.length := by omega
        refine Out.pure F (v := .int .u8 ((str.getD n.toNat 0).toNat : Int)) ?_ (.d (.int _ _))
        simp only [Instr.index, asIntOf, Sem.run_bind, Sem.run_pure, Result.andThen_ok, run_und hu]
        rw [if_pos hb.1]
        have : (⟨str.toArray⟩ : ByteArray)[n.toNat]? = some str[n.toNat] := by
          have h2 : n.toNat < (⟨str.toArray⟩ : ByteArray).size := by simpa [ByteArray.size] using hlt
          rw [getElem?_pos (⟨str.toArray⟩ : ByteArray) n.toNat h2]; rfl
        rw [this]
        simp [List.getD, hlt]
    case array len e =>
      cases x <;> (try simp only at hx) <;> try (simp at hx; done)
      case agg cs =>
       cases hz : (Env.of P).size e with
       | none => rw [hz] at hx; simp at hx
       | some z =>
        rw [hz] at hx; simp only at hx
        have run : ∀ (vs : Array Value), (0 ≤ n ∧ n < (len : Int)) → (Instr.index t (.agg vs) (.int k n)).run P w = (part e vs (n.toNat * z)).run P w := by
          intro vs hb
          simp only [Instr.index, asIntOf, Sem.run_bind, Sem.run_pure, Result.andThen_ok, run_und hu]
          rw [if_pos hb]
          simp only [Sem.run_bind, run_sizeOf' hz, Result.andThen_ok]
        cases r with
        | agg hl hs hr =>
          rename_i vs
          cases hle : Nat.ble (n.toNat * z + z) cs.length with
          | false => rw [hle] at hx; simp at hx
          | true =>
            have hle' := Nat.le_of_ble_eq_true hle
            rw [hle] at hx; simp only [cond_true] at hx
            cases ha : (Env.of P).isAgg e with
            | true =>
              rw [ha] at hx; simp only [cond_true, Option.some.injEq] at hx; subst hx
              have hb : 0 ≤ n ∧ n < (len : Int) := by simpa using hc
              refine Out.pure F (v := .agg (vs.extract (n.toNat * z) (n.toNat * z + z))) ?_ (mkAgg_ok (by simp; omega) (fun v hv => ?_) (fun k x v hx hv => ?_))
              · rw [run vs hb]
                have := run_part (w := w) (cs := vs) hz (off := n.toNat * z) (by omega) (by rw [ha]; simp)
                rw [ha] at this; simpa using this
              · obtain ⟨k, hk⟩ := Array.mem_iff_getElem?.1 hv
                rw [Array.getElem?_extract] at hk
                split at hk
                · exact hs v (Array.mem_iff_getElem?.2 ⟨_, hk⟩)
                · simp at hk
              · rw [List.getElem?_take] at hx
                split at hx
                · rw [List.getElem?_drop] at hx
                  rw [Array.getElem?_extract] at hv
                  split at hv
                  · exact hr _ x v hx hv
                  · simp at hv
                · simp at hx
            | false =>
              rw [ha] at hx; simp only [cond_false] at hx
              cases h1' : Nat.beq z 1 with
              | false => rw [h1'] at hx; simp at hx
              | true =>
                have := nbE h1'; subst this
                rw [h1'] at hx; simp only [cond_true, Option.some.injEq] at hx; subst hx
                have hb : 0 ≤ n ∧ n < (len : Int) := by simpa using hc
                have hlt : n.toNat * 1 < cs.length := by omega
                have hlt2 : n.toNat * 1 < vs.size := by omega
                refine Out.pure F (v := vs.getD (n.toNat * 1) undef) ?_ (hr (n.toNat * 1) _ _ (by simp only [List.getD, List.getElem?_eq_getElem hlt]; rfl) (by simp only [Array.getD, hlt2]; simp))
                rw [run vs hb]
                have := run_part (w := w) (cs := vs) hz (off := n.toNat * 1) (by omega) (fun _ => rfl)
                rw [ha] at this; simpa using this
      rename_i y
      cases y <;> (try simp only at hx) <;> try (simp at hx; done)
      rename_i cs
      cases hz : (Env.of P).size e with
      | none => rw [hz] at hx; simp at hx
      | some z =>
        rw [hz] at hx; simp only at hx
        cases hcut : cut (Env.of P) e z cs (n.toNat * z) with
        | none => rw [hcut] at hx; simp at hx
        | some y =>
          rw [hcut] at hx; simp only [Option.some.injEq] at hx; subst hx
          have hb : 0 ≤ n ∧ n < (len : Int) := by simpa using hc
          cases r with
          | d hr =>
            cases hr with
            | agg hl hs hr =>
              rename_i vs
              obtain ⟨c1, c2, c3⟩ := cut_ok hcut (o := 0) (c := vs) (by omega) hs (fun j y v hy hv => hr j y v hy (by simpa using hv))
              refine Out.pure F (v := if (Env.of P).isAgg e then .agg (vs.extract (n.toNat * z) (n.toNat * z + z)) else vs.getD (n.toNat * z) undef) ?_ (.d (by simpa using c1))
              simp only [Instr.index, asIntOf, Sem.run_bind, Sem.run_pure, Result.andThen_ok, run_und hu]
              rw [if_pos hb]
              simp only [Sem.run_bind, run_sizeOf' hz, Result.andThen_ok]
              exact run_part hz (by omega) c2

theorem extract_ok {κ : Kap} {φ : Phi} {w : World} {s : SSt} {a : Act} (F : FRel κ φ w s a) {i : Nat} {x : RV} {v : Value} {res : Res}
    (hx : exExtract x i = some res) (r : RVR κ φ s.O w.heap x v) : Out P κ φ w s a res.val res.upd (Instr.extract v i) := by
  unfold exExtract at hx
  cases x <;> (try simp only at hx) <;> try (simp at hx; done)
  case tup vs =>
    cases hi : vs[i]? with
    | none => rw [hi] at hx; simp at hx
    | some y =>
      rw [hi] at hx; simp only [Option.some.injEq] at hx; subst hx
      cases r with
      | tup hl hr =>
        rename_i us
        have hlt := (List.getElem?_eq_some_iff.1 hi).1
        have hlt2 : i < us.size := by omega
        have : us[i]? = some us[i] := by simp [hlt2]
        exact Out.pure F (v := us[i]) (by simp [Instr.extract, this]) (hr i y _ hi this)
  case d y =>
    cases y <;> (try simp only at hx) <;> try (simp at hx; done)
    rename_i vs
    cases hi : vs[i]? with
    | none => rw [hi] at hx; simp at hx
    | some y =>
      rw [hi] at hx; simp only [Option.some.injEq] at hx; subst hx
      cases r with
      | d hr =>
        cases hr with
        | tup hl hr =>
          rename_i us
          have hlt := (List.getElem?_eq_some_iff.1 hi).1
          have hlt2 : i < us.size := by omega
          have : us[i]? = some us[i] := by simp [hlt2]
          exact Out.pure F (v := us[i]) (by simp [Instr.extract, this]) (.d (hr i y _ hi this))

theorem indexAddr_ok {κ : Kap} {φ : Phi} {w : World} {s : SSt} {a : Act} (F : FRel κ φ w s a) {t : Nat} {x i : RV} {v iv : Value} {res : Res}
    (hx : exIndexAddr (Env.of P) s.O t x i = some res) (hc : ∀ b ∈ res.conds, b = true) (r : RVR κ φ s.O w.heap x v) (ri : RVR κ φ s.O w.heap i iv) :
    Out P κ φ w s a res.val res.upd (Instr.indexAt t v iv) := by
  unfold exIndexAddr at hx
  cases i <;> (try simp only at hx) <;> try (simp at hx; done)
  rename_i i
  cases i <;> (try simp only at hx) <;> try (simp at hx; done)
  rename_i k n
  cases ri with
  | d hri =>
  cases hri
  cases hu : (Env.of P).und t with
  | none => rw [hu] at hx; simp at hx
  | some d =>
    rw [hu] at hx
    cases d <;> (try simp only at hx) <;> try (simp at hx; done)
    case slice e =>
      have hsl : ∀ (b o len cap z : Nat), (Env.of P).size e = some z → 0 ≤ n ∧ n < (len : Int) → (Instr.indexAt t (.slice (some ⟨b, o, none⟩) len cap) (.int k n)).run P w = .ok (.pointer (some ⟨b, o + n.toNat * z, none⟩)) w := by
        intro b o len cap z hz hb
        simp only [Instr.indexAt, asIntOf, Sem.run_bind, Sem.run_pure, Result.andThen_ok, run_und hu]
        rw [if_pos hb]
        simp [run_sizeOf' hz, add_at]
      cases x <;> (try simp only at hx) <;> try (simp at hx; done)
      case d y =>
        cases y <;> (try simp only at hx) <;> try (simp at hx; done)
        rename_i sz els full
        cases hz : (Env.of P).size e with
        | none => rw [hz] at hx; simp at hx
        | some z =>
          rw [hz] at hx; simp only at hx
          cases hb : Nat.beq sz z with
          | false => rw [hb] at hx; simp at hx
          | true =>
            have := nbE hb; subst this
            rw [hb] at hx; simp only [cond_true, Option.some.injEq] at hx; subst hx
            have hn : 0 ≤ n ∧ n < (els.length : Int) := by simpa using hc
            cases r with
            | d hr =>
              cases hr with
              | lst0 hf => simp at hn; omega
              | lst hκ hb hf hcp hs hz' hr' =>
                rename_i b off cap c ty fz
                have hlt : n.toNat < els.length := by omega
                have hxi : els[n.toNat]? = some (els.getD n.toNat .nilp) := by simp [List.getD, hlt]
                have hel : EL κ w.heap c off sz els := ⟨hz', by have := Nat.mul_le_mul_right sz hcp; omega, hr'⟩
                obtain ⟨e1, e2, e3, e4⟩ := el_cells hel hxi
                exact Out.pure F (hsl _ _ _ _ _ hz hn) (by have := RVR.iptr (φ := φ) (O := s.O) (x := els.getD n.toNat .nilp) (off := 0) (o := off + n.toNat * sz) hκ hb (by omega) e3 e4; simpa using this)
      case own j sz =>
        have fin : ∀ (els : List DV), ((∃ ty, s.O j = some (.arr ty sz els)) ∨ s.O j = some (.frz sz els)) → (Env.of P).size e = some sz → (0 ≤ n ∧ n < (els.length : Int)) →
            Out P κ φ w s a (.eptr j sz n.toNat 0) [] (Instr.indexAt t v (.int k n)) := by
          intro els hO hz hn
          have hso := own_slOk hO (F.objs j) r
          cases r with
          | own hφ hb hcap hlc hlen =>
            have hl := hlen els.length (by rcases hO with ⟨_, e⟩ | e <;> rw [e] <;> rfl)
            subst hl
            exact Out.pure F (hsl _ _ _ _ _ hz hn) (by have := RVR.eptr (κ := κ) (O := s.O) (h := w.heap) (sz := sz) (idx := n.toNat) (off := 0) hφ; simpa using this)
          | ownNil hφ =>
            obtain ⟨base, cap, e1, _⟩ := hso
            injection e1 with e1 e2 e3
            omega
        cases hO : s.O j with
        | none => rw [hO] at hx; simp at hx
        | some p =>
          rw [hO] at hx
          cases hz : (Env.of P).size e with
          | none => rw [hz] at hx; cases p <;> simp at hx
          | some z =>
            rw [hz] at hx
            cases p <;> (try simp only at hx) <;> try (simp at hx; done)
            all_goals
              rename_i sz' els
              cases hb : (Nat.beq sz' sz && Nat.beq sz z) with
              | false => rw [hb] at hx; simp at hx
              | true =>
                rw [hb] at hx; simp only [cond_true, Option.some.injEq] at hx; subst hx
                simp only [Bool.and_eq_true] at hb
                have := nbE hb.1; subst this
                have := nbE hb.2; subst this
                exact fin els (by simp [hO]) hz (by simpa using hc)
      case sub j sz off len =>
        cases hz : (Env.of P).size e with
        | none => rw [hz] at hx; simp at hx
        | some z =>
          rw [hz] at hx; simp only at hx
          cases hb : Nat.beq sz z with
          | false => rw [hb] at hx; simp at hx
          | true =>
            have := nbE hb; subst this
            rw [hb] at hx; simp only [cond_true, Option.some.injEq] at hx; subst hx
            have hn : 0 ≤ n ∧ n < (len : Int) := by simpa using hc
            cases r with
            | sub hφ hb hcap hlc =>
              exact Out.pure F (hsl _ _ _ _ _ hz hn) (by have := RVR.eptr (κ := κ) (O := s.O) (h := w.heap) (sz := sz) (idx := off + n.toNat) (off := 0) hφ; simpa [Nat.add_mul] using this)
            | sub0 hφ => simp at hn; omega
    case array len e =>
      cases x <;> (try simp only at hx) <;> try (simp at hx; done)
      rename_i j off
      have hsl : ∀ (b o z : Nat), (Env.of P).size e = some z → 0 ≤ n ∧ n < (len : Int) → (Instr.indexAt t (.pointer (some ⟨b, o, none⟩)) (.int k n)).run P w = .ok (.pointer (some ⟨b, o + n.toNat * z, none⟩)) w := by
        intro b o z hz hb
        simp only [Instr.indexAt, asIntOf, Sem.run_bind, Sem.run_pure, Result.andThen_ok, run_und hu, Instr.sureAddr]
        rw [if_pos hb]
        simp [run_sizeOf' hz, add_at]
      cases r with
      | ptr hφ =>
      cases hO : s.O j with
      | none => rw [hO] at hx; simp at hx
      | some p =>
        rw [hO] at hx
        cases hz : (Env.of P).size e with
        | none => rw [hz] at hx; cases p <;> simp at hx
        | some z =>
          rw [hz] at hx
          cases p <;> (try simp only at hx) <;> try (simp at hx; done)
          case arr ty sz els =>
            cases hb : (Nat.beq sz z && Nat.beq off 0) with
            | false => rw [hb] at hx; simp at hx
            | true =>
              rw [hb] at hx; simp only [cond_true, Option.some.injEq] at hx; subst hx
              simp only [Bool.and_eq_true] at hb
              have := nbE hb.1; subst this
              have := nbE hb.2; subst this
              exact Out.pure F (hsl _ _ _ hz (by simpa using hc)) (by have := RVR.eptr (κ := κ) (O := s.O) (h := w.heap) (sz := sz) (idx := n.toNat) (off := 0) hφ; simpa using this)
          case box ty cs =>
            injection hx with hx; subst hx
            exact Out.pure F (hsl _ _ _ hz (by simpa using hc)) (.ptr hφ)

end Go.Am

/-
  The abstract machine: each operation is sound (slices that are built, made, appended to).
-/
namespace Go.Am
set_option linter.unusedSectionVars false
variable {P : Program} [Gl]

theorem tkAll_ok {O0 : Tab} : ∀ {κ : Kap} {φ : Phi} {w : World} {s : SSt} {a : Act} (_ : FRel κ φ w s a) (_ : Frzd O0 s.O) {xs : List (Nat × RV)} {vs : List (Nat × Value)} {ys : List (Nat × DV)}
    {u : List (Nat × PObj)} {c : List Bool} (_ : tkAll O0 xs = some (ys, u, c)) (_ : ∀ b ∈ c, b = true) (_ : vs.length = xs.length)
    (_ : ∀ (i : Nat) (x : Nat × RV) (v : Nat × Value), xs[i]? = some x → vs[i]? = some v → x.1 = v.1 ∧ RVR κ φ s.O w.heap x.2 v.2),
    ∃ κ', FRel κ' φ w { s with O := updO s.O u } a ∧ Mono κ φ s.O w.heap κ' φ (updO s.O u) w.heap ∧ Fr κ w κ' w ∧
      ys.length = xs.length ∧ ∀ (i : Nat) (y : Nat × DV) (v : Nat × Value), ys[i]? = some y → vs[i]? = some v → y.1 = v.1 ∧ DR κ' w.heap y.2 v.2 := by
  intro κ φ w s a F hf xs
  induction xs generalizing κ s with
  | nil =>
    intro vs ys u c hx _ _ _
    simp only [tkAll, Option.some.injEq, Prod.mk.injEq] at hx
    obtain ⟨rfl, rfl, rfl⟩ := hx
    exact ⟨κ, F, Mono.refl _ _ _ _, Fr.refl _ _, rfl, by simp⟩
  | cons x xs ih =>
    intro vs ys u c hx hc hl hr
    obtain ⟨i0, x⟩ := x
    simp only [tkAll] at hx
    cases h1 : tkDV O0 x with
    | none => rw [h1] at hx; simp at hx
    | some p1 =>
      obtain ⟨y, u1, c1⟩ := p1
      cases h2 : tkAll O0 xs with
      | none => rw [h1, h2] at hx; simp at hx
      | some p2 =>
        obtain ⟨l, u2, c2⟩ := p2
        rw [h1, h2] at hx
        simp only [Option.some.injEq, Prod.mk.injEq] at hx
        obtain ⟨rfl, rfl, rfl⟩ := hx
        cases vs with
        | nil => simp at hl
        | cons v vs =>
          obtain ⟨e0, r0⟩ := hr 0 (i0, x) v rfl rfl
          obtain ⟨κ1, F1, M1, R1, f1, d1⟩ := tkDV_ok F hf h1 (fun b hb => hc b (by simp [hb])) r0
          obtain ⟨κ2, F2, M2, R2, l2, d2⟩ := ih F1 f1 h2 (fun b hb => hc b (by simp [hb])) (vs := vs) (by simpa using hl)
            (fun i x' v' hx' hv' => ⟨(hr (i + 1) x' v' (by simpa using hx') (by simpa using hv')).1, (hr (i + 1) x' v' (by simpa using hx') (by simpa using hv')).2.mono M1⟩)
          refine ⟨κ2, ?_, ?_, R1.trans R2, by simp [l2], ?_⟩
          · rw [updO_append]; exact F2
          · rw [updO_append]; exact M1.trans M2
          · intro i y' v' hy' hv'
            cases i with
            | zero => simp at hy' hv'; subst hy'; subst hv'; exact ⟨e0, d1.mono M2.imm⟩
            | succ i => exact d2 i y' v' (by simpa using hy') (by simpa using hv')

theorem partEls_ok (sz : Nat) : ∀ (k : Nat) (ps : List (Nat × DV)) (els : List DV), partEls sz k ps = some els → els.length = ps.length ∧
    ∀ (i : Nat) (x : DV), els[i]? = some x → ps[i]? = some (k + i, x) ∧ x.cells.length = sz ∧ ∀ y ∈ x.cells, y.scal = true
  | k, [], els, h => by simp [partEls] at h; subst h; simp
  | k, (i0, x) :: ps, els, h => by
    simp only [partEls] at h
    cases hg : (Nat.beq i0 k && Nat.beq x.cells.length sz && allScal x.cells) with
    | false => rw [hg] at h; simp at h
    | true =>
      rw [hg] at h; simp only [cond_true] at h
      simp only [Bool.and_eq_true] at hg
      have := nbE hg.1.1; subst this
      cases hr : partEls sz (i0 + 1) ps with
      | none => rw [hr] at h; simp at h
      | some l =>
        rw [hr] at h; simp at h; subst h
        obtain ⟨g1, g2⟩ := partEls_ok sz (i0 + 1) ps l hr
        refine ⟨by simp [g1], fun i y hy => ?_⟩
        cases i with
        | zero => simp at hy; subst hy; exact ⟨by simp, nbE hg.1.2, allScal_spec hg.2⟩
        | succ i =>
          obtain ⟨q1, q2⟩ := g2 i y (by simpa using hy)
          refine ⟨?_, q2⟩
          simp only [List.getElem?_cons_succ, q1]
          congr 2; omega

theorem splA_splA (c : Array Value) (o : Nat) (vs us : List Value) (h : o + vs.length + us.length ≤ c.size) : splA (splA c o vs) (o + vs.length) us = splA c o (vs ++ us) := by
  have h1 := splA_size c o vs (by omega)
  apply Array.ext_getElem?
  intro j
  rw [splA_get _ _ _ (by omega), splA_get _ _ _ (by omega), splA_get _ _ _ (by simp; omega)]
  by_cases k1 : j < o
  · rw [if_pos (by omega), if_pos k1, if_pos k1]
  · by_cases k2 : j < o + vs.length
    · rw [if_pos k2, if_neg k1, if_pos k2, if_neg k1, if_pos (by simp; omega), List.getElem?_append_left (by omega)]
    · rw [if_neg k2, if_neg k1, if_neg k2, if_neg k1]
      by_cases k3 : j < o + vs.length + us.length
      · rw [if_pos k3, if_pos (by simp; omega), List.getElem?_append_right (by omega)]; congr 1; omega
      · rw [if_neg k3, if_neg (by simp; omega)]

theorem fill_all (sz : Nat) : ∀ (pv : List (Nat × Value)) (k : Nat) (c : Array Value), (∀ (i : Nat) (q : Nat × Value), pv[i]? = some q → q.1 = k + i ∧ q.2.cells.size = sz) → (k + pv.length) * sz ≤ c.size →
    Instr.fill (fun i => some (i * sz, sz)) c pv = some (splA c (k * sz) (pv.flatMap fun q => q.2.cells.toList))
  | [], k, c, _, _ => by simp [Instr.fill, splA, splice]
  | (i, v) :: pv, k, c, h, hc => by
    obtain ⟨e1, e2⟩ := h 0 (i, v) rfl
    simp only [Nat.add_zero] at e1 e2; subst e1
    have hc1 : (i + 1 + pv.length) * sz ≤ c.size := by simp only [List.length_cons] at hc; rw [show i + 1 + pv.length = i + (pv.length + 1) by omega]; exact hc
    have hexp : (i + 1 + pv.length) * sz = i * sz + sz + pv.length * sz := by rw [Nat.add_mul, Nat.add_mul, Nat.one_mul]
    rw [fill_cons rfl e2 (by omega)]
    have hvl : v.cells.toList.length = sz := by simpa using e2
    rw [fill_all sz pv (i + 1) _ (fun j q hq => by
      obtain ⟨g1, g2⟩ := h (j + 1) q (by simpa using hq)
      exact ⟨by omega, g2⟩) (by rw [splA_size _ _ _ (by omega)]; exact hc1)]
    have hfl : (pv.flatMap fun q => q.2.cells.toList).length = pv.length * sz := by
      have : ∀ (l : List (Nat × Value)), (∀ q ∈ l, q.2.cells.size = sz) → (l.flatMap fun q => q.2.cells.toList).length = l.length * sz := by
        intro l
        induction l with
        | nil => intro _; simp
        | cons q l ih =>
          intro hq
          have h1 := ih (fun q' hq' => hq q' (by simp [hq']))
          have h2 := hq q (by simp)
          simp only [List.flatMap_cons, List.length_append, h1, List.length_cons, Nat.add_mul, Array.length_toList, h2]; omega
      refine this pv (fun q hq => ?_)
      obtain ⟨j, hj⟩ := List.mem_iff_getElem?.1 hq
      exact (h (j + 1) q (by simpa using hj)).2
    congr 1
    have := splA_splA c (i * sz) v.cells.toList (pv.flatMap fun q => q.2.cells.toList) (by omega)
    rw [hvl] at this
    rw [show (i + 1) * sz = i * sz + sz by rw [Nat.add_mul]; omega, this]
    simp

theorem flat_get {α β : Type} {f : α → List β} {sz : Nat} : ∀ (l : List α), (∀ x ∈ l, (f x).length = sz) → (l.flatMap f).length = l.length * sz ∧
    ∀ (i : Nat) (x : α) (j : Nat), l[i]? = some x → j < sz → (l.flatMap f)[i * sz + j]? = (f x)[j]?
  | [], _ => by simp
  | y :: l, h => by
    obtain ⟨h1, h2⟩ := flat_get l (fun x hx => h x (by simp [hx]))
    have hy := h y (by simp)
    refine ⟨by simp only [List.flatMap_cons, List.length_append, h1, hy, List.length_cons, Nat.add_mul]; omega, fun i x j hx hj => ?_⟩
    cases i with
    | zero => simp at hx; subst hx; simp only [List.flatMap_cons, Nat.zero_mul, Nat.zero_add]; rw [List.getElem?_append_left (by omega)]
    | succ i =>
      simp only [List.flatMap_cons]
      rw [List.getElem?_append_right (by rw [hy, Nat.add_mul]; omega), hy, ← h2 i x j (by simpa using hx) hj]
      congr 1; rw [Nat.add_mul]; omega

/-- Values' cells, one behind the other, hold the data that the values are. -/
theorem EL_flat {κ : Kap} {h : Heap} {sz : Nat} {els : List DV} {vs : List Value} (hl : vs.length = els.length) (hok : ElsOk sz els)
    (hr : ∀ (i : Nat) (x : DV) (v : Value), els[i]? = some x → vs[i]? = some v → DR κ h x v) {rest : List Value} :
    EL κ h ((vs.flatMap fun v => v.cells.toList) ++ rest).toArray 0 sz els ∧ (vs.flatMap fun v => v.cells.toList).length = els.length * sz := by
  have hlen : ∀ v ∈ vs, v.cells.toList.length = sz := fun v hv => by
    obtain ⟨i, hi⟩ := List.mem_iff_getElem?.1 hv
    have hlt := (List.getElem?_eq_some_iff.1 hi).1
    have hlt2 : i < els.length := by omega
    have hx : els[i]? = some els[i] := by simp [hlt2]
    have := (hr i _ v hx hi).cells.1
    have h2 := (hok els[i] (by simp)).1
    simp; omega
  obtain ⟨f1, f2⟩ := flat_get (f := fun v : Value => v.cells.toList) vs hlen
  refine ⟨⟨hok, by simp only [List.size_toArray, List.length_append, f1, hl]; omega, fun i x j y v hx hy hv => ?_⟩, by rw [f1, hl]⟩
  have hlt := (List.getElem?_eq_some_iff.1 hx).1
  have hj : j < sz := by have := (List.getElem?_eq_some_iff.1 hy).1; have := (hok x (List.mem_iff_getElem?.2 ⟨i, hx⟩)).1; omega
  have hlt2 : i < vs.length := by omega
  have hvi : vs[i]? = some vs[i] := by simp [hlt2]
  have hle := Nat.mul_le_mul_right sz (show i + 1 ≤ vs.length from hlt2)
  rw [Nat.add_mul] at hle
  simp only [Nat.zero_add, List.getElem?_toArray] at hv
  rw [List.getElem?_append_left (by rw [f1]; omega), f2 i vs[i] j hvi hj] at hv
  exact (hr i x vs[i] hx hvi).cells.2 j y v hy (by simpa using hv)

theorem buildSlice_ok {κ : Kap} {φ : Phi} {w : World} {s : SSt} {a : Act} (F : FRel κ φ w s a) {sl t len : Nat} {parts : List (Nat × RV)} {pv : Array (Nat × Value)} {res : Res}
    (hx : exBuildSlice (Env.of P) s.O sl t len parts = some res) (hc : ∀ b ∈ res.conds, b = true) (hl : pv.size = parts.length)
    (hr : ∀ (k : Nat) (p : Nat × RV) (q : Nat × Value), parts[k]? = some p → pv[k]? = some q → p.1 = q.1 ∧ RVR κ φ s.O w.heap p.2 q.2) :
    Out P κ φ w s a res.val res.upd (Instr.buildSlice t len pv) := by
  unfold exBuildSlice at hx
  cases hO : s.O sl with
  | some p => rw [hO] at hx; simp at hx
  | none =>
    rw [hO] at hx
    cases hu : (Env.of P).und t with
    | none => rw [hu] at hx; simp at hx
    | some d =>
      rw [hu] at hx
      cases d <;> (try simp only at hx) <;> try (simp at hx; done)
      rename_i e
      cases hz : (Env.of P).size e with
      | none => rw [hz] at hx; simp at hx
      | some sz =>
        cases hze : (Env.of P).zero e with
        | none => rw [hz, hze] at hx; simp at hx
        | some zd =>
          rw [hz, hze] at hx; simp only at hx
          cases ht : tkAll s.O parts with
          | none => rw [ht] at hx; simp at hx
          | some p3 =>
            obtain ⟨ps, u, c⟩ := p3
            rw [ht] at hx; simp only at hx
            cases hg : (Nat.beq ps.length len && Nat.ble 1 sz && Nat.ble (len * sz) 1000000 && (u.all fun p => !(Nat.beq p.1 sl))) with
            | false => rw [hg] at hx; simp at hx
            | true =>
              rw [hg] at hx; simp only [cond_true] at hx
              simp only [Bool.and_eq_true] at hg
              obtain ⟨⟨⟨g1, g2⟩, g3⟩, g4⟩ := hg
              have g1 := nbE g1
              have g2 := Nat.le_of_ble_eq_true g2
              have g3 := Nat.le_of_ble_eq_true g3
              cases hp : partEls sz 0 ps with
              | none => rw [hp] at hx; simp at hx
              | some els =>
                rw [hp] at hx; simp only [Option.some.injEq] at hx; subst hx
                obtain ⟨κ1, F1, M1, R1, l1, d1⟩ := tkAll_ok F (Frzd.refl _) ht hc (vs := pv.toList) (by simpa using hl) (fun i x v hx hv => hr i x v hx (by simpa using hv))
                obtain ⟨p1, p2⟩ := partEls_ok sz 0 ps els hp
                have hO1 : updO s.O u sl = none := by rw [updO_other u s.O g4]; exact hO
                obtain ⟨zv, hzv, _⟩ := run_zeroValue hze w
                have hvlen : pv.toList.length = els.length := by simp; omega
                have hfill : ∀ B : Array Value, B.size = len * sz → Instr.fill (fun i => some (i * sz, sz)) B pv.toList = some (splA B 0 (pv.toList.flatMap fun q => q.2.cells.toList)) := by
                  intro B hB
                  have := fill_all sz pv.toList 0 B (fun i q hq => by
                    have hlt := (List.getElem?_eq_some_iff.1 hq).1
                    have hlt2 : i < els.length := by omega
                    have hxi : els[i]? = some els[i] := by simp [hlt2]
                    obtain ⟨q1, q2, q3⟩ := p2 i _ hxi
                    obtain ⟨e1, e2⟩ := d1 i _ q q1 hq
                    exact ⟨by simp at e1; omega, by have := e2.cells.1; simp only at this; omega⟩) (by rw [hB]; simp only [Nat.zero_add, hvlen, p1, g1]; exact Nat.le_refl _)
                  simpa using this
                have hflat : EL κ1 w.heap (((pv.toList.map (·.2)).flatMap fun v => v.cells.toList) ++ ([] : List Value)).toArray 0 sz els ∧ ((pv.toList.map (·.2)).flatMap fun v => v.cells.toList).length = els.length * sz :=
                  EL_flat (κ := κ1) (h := w.heap) (vs := pv.toList.map (·.2)) (by simpa using hvlen) (fun x hx => by
                    obtain ⟨i, hi⟩ := List.mem_iff_getElem?.1 hx
                    exact (p2 i x hi).2) (fun i x v hx hv => by
                    obtain ⟨q1, _⟩ := p2 i x hx
                    simp only [List.getElem?_map] at hv
                    cases hq : pv.toList[i]? with
                    | none => rw [hq] at hv; simp at hv
                    | some q => rw [hq] at hv; simp at hv; subst hv; exact (d1 i _ q q1 hq).2)
                rw [List.flatMap_map] at hflat
                have hfull : ∀ B : Array Value, B.size = len * sz → splA B 0 (pv.toList.flatMap fun q => q.2.cells.toList) = (pv.toList.flatMap fun q => q.2.cells.toList).toArray := by
                  intro B hB
                  have hlen2 : (pv.toList.flatMap fun q => q.2.cells.toList).length = len * sz := by rw [hflat.2, p1, g1]
                  simp only [splA, splice, List.take_zero, List.nil_append, Nat.zero_add]
                  rw [List.drop_eq_nil_of_le (by rw [hlen2, Array.length_toList, hB]; exact Nat.le_refl _)]; simp
                have hrun : (Instr.buildSlice t len pv).run P w = .ok (.slice (some ⟨w.heap.size, 0, none⟩) len len) { w with heap := w.heap.push (.cells (pv.toList.flatMap fun q => q.2.cells.toList).toArray e (0, 0)) } := by
                  simp only [Instr.buildSlice, Sem.run_bind, run_und hu, Result.andThen_ok, run_sizeOf' hz]
                  rw [if_neg (show ¬ (len * sz > 2 ^ 24) by have : (2:Nat) ^ 24 = 16777216 := by decide
                                                            omega)]
                  by_cases h0 : len * sz = 0
                  · rw [if_pos h0]
                    simp only [Sem.run_bind, Sem.run_pure, Result.andThen_ok]
                    rw [hfill _ (by simp), hfull _ (by simp)]
                    simp [newRow]
                  · rw [if_neg h0]
                    simp only [Sem.run_bind, hzv, Sem.run_pure, Result.andThen_ok]
                    rw [hfill _ (by simp), hfull _ (by simp)]
                    simp [newRow]
                have hcs : (pv.toList.flatMap fun q => q.2.cells.toList).toArray.size = len * sz := by simp only [List.size_toArray]; rw [hflat.2, p1, g1]
                obtain ⟨q1, q2, q3⟩ := F1.alloc (i := sl) (p := .arr e sz els) (o := .cells (pv.toList.flatMap fun q => q.2.cells.toList).toArray e (0, 0))
                  (w' := { w with heap := w.heap.push (.cells (pv.toList.flatMap fun q => q.2.cells.toList).toArray e (0, 0)) }) rfl hO1
                  (fun M => .inr ⟨_, _, (0, 0), setP_same _ _ _, setK_same _ _ _, heap_push_eq _ _, fzOk00 _, by have := hflat.1.mono M.imm; simpa using this⟩)
                refine ⟨_, _, _, setP φ sl (.at w.heap.size), hrun, ?_, ?_, R1.trans q3, by simp only [updO_append]; exact M1.kp.trans q2.kp⟩
                · simp only [updO_append]; exact q1
                · simp only [updO_append]
                  exact .own (setP_same _ _ _) (heap_push_eq _ _) (by rw [hcs]; exact Nat.le_refl _) (Nat.le_refl _) (fun n hn => by
                    have : PObj.len? (setT (updO s.O u) sl (some (.arr e sz els)) sl) = some n := hn
                    rw [setT_same] at this; simp [PObj.len?] at this; omega)


/-- The cells that a slice shows, as a row of their own. -/
def RowOf (κ : Kap) (h : Heap) (X : Array Value) (sz : Nat) (els : List DV) : Prop :=
  X.size = els.length * sz ∧ (∀ v ∈ X, v.oneCell = true) ∧ ElsOk' sz els ∧
  ∀ (i : Nat) (x : DV) (j : Nat) (y : DV) (v : Value), els[i]? = some x → x.cells[j]? = some y → X[i * sz + j]? = some v → DR κ h y v
where ElsOk' (sz : Nat) (els : List DV) : Prop := ElsOk sz els

theorem EL.row {κ : Kap} {h : Heap} {c : Array Value} {off sz : Nat} {els : List DV} (e : EL κ h c off sz els) (hsz : 1 ≤ sz) :
    RowOf κ h (c.extract off (off + els.length * sz)) sz els := by
  obtain ⟨e1, e2, e3⟩ := e
  have hsize : (c.extract off (off + els.length * sz)).size = els.length * sz := by simp; omega
  refine ⟨hsize, fun v hv => ?_, e1, fun i x j y v hx hy hv => ?_⟩
  · obtain ⟨k, hk⟩ := Array.mem_iff_getElem?.1 hv
    have hlt := (Array.getElem?_eq_some_iff.1 hk).1
    rw [hsize] at hlt
    have hq : k / sz < els.length := Nat.div_lt_of_lt_mul (by rw [Nat.mul_comm]; exact hlt)
    have hx : els[k / sz]? = some els[k / sz] := by simp [hq]
    have hok := e1 els[k / sz] (by simp)
    have hm : k % sz < els[k / sz].cells.length := by rw [hok.1]; exact Nat.mod_lt _ (by omega)
    have hy : els[k / sz].cells[k % sz]? = some els[k / sz].cells[k % sz] := by simp [hm]
    rw [Array.getElem?_extract] at hk
    split at hk
    · have hdm := Nat.div_add_mod k sz
      rw [Nat.mul_comm] at hdm
      refine (e3 (k / sz) _ (k % sz) _ v hx hy ?_).oneCell (hok.2 _ (by simp))
      rw [← hk]; congr 1; omega
    · simp at hk
  · refine e3 i x j y v hx hy ?_
    rw [Array.getElem?_extract] at hv
    split at hv
    · rw [Nat.add_assoc]; exact hv
    · simp at hv

theorem RowOf.nil {κ : Kap} {h : Heap} {sz : Nat} : RowOf κ h #[] sz [] := ⟨by simp, by simp, by intro x hx; simp at hx, by simp⟩

theorem u8s_get (s : List UInt8) (i : Nat) (x : DV) (h : (u8s s)[i]? = some x) : ∃ b, s[i]? = some b ∧ x = .int .u8 b.toNat := by
  simp only [u8s, List.getElem?_map] at h
  cases e : s[i]? with
  | none => rw [e] at h; simp at h
  | some b => rw [e] at h; simp at h; exact ⟨b, rfl, h.symm⟩

theorem u8s_ok (s : List UInt8) : ElsOk 1 (u8s s) := by
  intro x hx
  simp only [u8s, List.mem_map] at hx
  obtain ⟨b, _, rfl⟩ := hx
  exact ⟨rfl, fun y hy => by simp [DV.cells] at hy; subst hy; rfl⟩

/-- What stands in an append's or a copy's second place, read. -/
theorem firstCells_ok {κ : Kap} {φ : Phi} {w : World} {s : SSt} {a : Act} (F : FRel κ φ w s a) {x : RV} {v : Value} {sz z : Nat} {els : List DV} {c : List Bool}
    (hx : srcEls s.O x = some (sz, els, c)) (hc : ∀ b ∈ c, b = true) (r : RVR κ φ s.O w.heap x v) (hz : (Nat.beq sz z || els.isEmpty) = true) (h1 : 1 ≤ z) :
    ∃ X, (∀ w' : World, w'.heap = w.heap → (Builtin.lenOf v).run P w' = .ok els.length w' ∧ (Builtin.firstCells z els.length v).run P w' = .ok X w') ∧ RowOf κ w.heap X z els := by
  have sl : SlOk κ w.heap v sz els → ∃ X, (∀ w' : World, w'.heap = w.heap → (Builtin.lenOf v).run P w' = .ok els.length w' ∧ (Builtin.firstCells z els.length v).run P w' = .ok X w') ∧ RowOf κ w.heap X z els := by
    rintro ⟨base, cap, rfl, hcap, hs⟩
    by_cases he : els = []
    · subst he
      refine ⟨#[], fun w' _ => ⟨rfl, ?_⟩, RowOf.nil⟩
      cases base with
      | none => rfl
      | some b => simp [Builtin.firstCells, loadCells, loadCellsFrom]
    · have hzz : sz = z := by
        simp only [Bool.or_eq_true] at hz
        rcases hz with hz | hz
        · exact nbE hz
        · exact absurd (by simpa using hz) he
      subst hzz
      rcases hs with hs | ⟨b, off, cc, ty, fz, rfl, hb, hel, hsz⟩
      · exact absurd hs he
      · exact ⟨_, fun w' hw => ⟨rfl, by simp only [Builtin.firstCells]; exact run_loadCells_at (by rw [hw]; exact hb) hel.2.1⟩, hel.row h1⟩
  by_cases hstr : ∃ str, x = .d (.str str)
  · obtain ⟨str, rfl⟩ := hstr
    simp only [srcEls, Option.some.injEq, Prod.mk.injEq] at hx
    obtain ⟨rfl, rfl, rfl⟩ := hx
    cases r with
    | d hr =>
      cases hr
      have hzz : 1 = z ∨ str = [] := by
        simp only [Bool.or_eq_true] at hz
        rcases hz with hz | hz
        · exact .inl (nbE hz)
        · right; simpa [u8s] using hz
      have hlen : (u8s str).length = str.length := by simp [u8s]
      refine ⟨(str.toArray.map fun b => Value.int .u8 b.toNat), fun w' _ => ⟨by simp [Builtin.lenOf, hlen, ByteArray.size], ?_⟩, ?_⟩
      · simp only [Builtin.firstCells, hlen]
        have : ((⟨str.toArray⟩ : ByteArray).extract 0 str.length).data = str.toArray := by
          simp [ByteArray.data_extract]
        rw [this]; rfl
      · rcases hzz with rfl | rfl
        · refine ⟨by simp [hlen], fun v hv => ?_, u8s_ok str, fun i x j y v hx hy hv => ?_⟩
          · simp only [Array.mem_map] at hv
            obtain ⟨b, _, rfl⟩ := hv; rfl
          · obtain ⟨b, hb, rfl⟩ := u8s_get str i x hx
            cases j with
            | zero =>
              simp [DV.cells] at hy; subst hy
              simp only [Nat.mul_one, Nat.add_zero, Array.getElem?_map, List.getElem?_toArray, hb, Option.map_some, Option.some.injEq] at hv
              subst hv; exact .int _ _
            | succ j => simp [DV.cells] at hy
        · simpa [u8s] using RowOf.nil
  · have : srcEls s.O x = elsOf s.O x := by
      unfold srcEls
      split
      · rename_i str; exact absurd ⟨_, rfl⟩ hstr
      · rfl
    rw [this] at hx
    exact sl (elsOf_ok F hx hc r)

end Go.Am
