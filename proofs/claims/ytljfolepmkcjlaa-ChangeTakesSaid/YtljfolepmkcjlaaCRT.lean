/-
  ref09.Take, run: a string's row.
-/
import Derived.Test.YtljfolepmkcjlaaCB
import Derived.Test.YtljfolepmkcjlaaCK1
import Derived.Test.YtljfolepmkcjlaaWRTake
import Derived.IntWalk
namespace Go.Proofs.Ytljfolepmkcjlaa
open Go.RowKit Plain Am IntWalk
set_option maxRecDepth 100000

theorem rnum_ent : EntOk Try.prog 47 (e1 numG) := by
  refine e1_ok fun x y c hg hc => ?_
  unfold numG at hg
  split at hg
  · rename_i s
    simp only [Option.some.injEq, Prod.mk.injEq] at hg
    obtain ⟨rfl, rfl⟩ := hg
    have h0 : s.length ≤ 65536 := by simpa using hc (decide (s.length ≤ 65536)) (by simp)
    exact C_flat (args := [.str s]) (us := [.string ⟨s.toArray⟩]) rfl rfl fun w => rtake_any s w h0
  · cases hg
def unfG : DV → Option (DV × List Bool)
  | .int .u64 n => some (.int .i64 (unfoldN n.toNat), [decide (0 ≤ n), decide (n.toNat < 18446744073709551616)])
  | _ => none
theorem runf_ent : EntOk Try.prog 68 (e1 unfG) := by
  refine e1_ok fun x y c hg hc => ?_
  unfold unfG at hg
  split at hg
  · rename_i n
    simp only [Option.some.injEq, Prod.mk.injEq] at hg
    obtain ⟨rfl, rfl⟩ := hg
    have h0 : 0 ≤ n := by simpa using hc (decide (0 ≤ n)) (by simp)
    have h1 : n.toNat < 18446744073709551616 := by simpa using hc (decide (n.toNat < 18446744073709551616)) (by simp)
    refine C_flat (args := [.int .u64 n]) (us := [.int .u64 n]) (v := .int .i64 (unfoldN n.toNat)) rfl rfl fun w => ?_
    have := runfold_any n.toNat w h1
    rw [Int.toNat_of_nonneg h0] at this
    refine this.mono ?_
    rintro e w' ⟨rfl, rfl⟩
    exact ⟨rfl, Below.refl _ _⟩
  · cases hg
noncomputable def tabR : List (Nat × Ent) := [(47, e1 numG), (68, e1 unfG)]
theorem tabR_ok : EntsOk Try.prog tabR := .cons rnum_ent (.cons runf_ent .nil)
noncomputable abbrev cfR : Cfg := cfT tabR
noncomputable abbrev rtB : Code := (Try.f48.body).getD .skip
noncomputable abbrev rtR := Try.f48.results.toList

def dN (n : Nat) : DV := .int .u64 (n : Int)
def l1 (S : Bs) (y : List DV × Nat) : ESt := { n := 131, m := 0, regs := T.mk [(0, .d (.str S)), (4, .d (.int .i64 (y.2 : Int))), (5, .own 100 1)], objs := T.mk [(100, .arr 61 1 y.1)] }
def l2 (S : Bs) (ts : List DV) (y : List DV × Nat × Nat) : ESt :=
  { n := 131, m := 0, regs := T.mk [(0, .d (.str S)), (4, .d (.int .i64 (y.2.1 : Int))), (5, .own 100 1), (9, .own 101 3), (10, .d (.int .i64 (y.2.2 : Int)))], objs := T.mk [(100, .arr 61 1 ts), (101, .arr 49 3 y.1)] }
def rtkL (S : Bs) : DV := match takeRow S with
  | none => .lst 0 [] true
  | some l => .lst 3 (l.map vD) false
def rtkQ (S : Bs) (r : RV) (o : List PObj) : Prop := r = .tup [.d (rtkL S), .d (.int .i64 (if takeRow S = none then 7 else 0))] ∧ o = []
theorem rtkQ_none {S : Bs} (h : takeRow S = none) : rtkQ S (.tup [.d (.lst 0 [] true), .d (.int .i64 7)]) [] := by simp [rtkQ, rtkL, h]
theorem rtkQ_some {S : Bs} {l : List Val} (h : takeRow S = some l) : rtkQ S (.tup [.d (.lst 3 (l.map vD) false), .d (.int .i64 0)]) [] := by simp [rtkQ, rtkL, h]

def cA (ts : List DV) (k : Nat) : Bool := decide (0 ≤ (k : Int) ∧ (k : Int) < (ts.length : Int))
def cB (ts : List DV) (k : Nat) : Bool := decide ((k : Int).toNat < ts.length)
def cC (ts : List DV) (k : Nat) : Bool := (ts.getD (k : Int).toNat .nilp).scal
def cP (S : Bs) (p : Nat) : Bool := decide (0 ≤ (p : Int) ∧ (p : Int) ≤ (S.length : Int))
def cL (S : Bs) (p : Nat) : Bool := decide ((S.drop p).length ≤ 65536)
def cR (row : List DV) (x : DV) : Bool := decide ((row.length + [x].length) * 32 ≤ 2 ^ 38)
def eLt (ts : List DV) (k : Nat) (b : Bool) : RV × RV := (.d (.bool (decide ((k : Int) < (ts.length : Int)))), .d (.bool b))
def eG (ts : List DV) (k t : Nat) : RV × RV := (.d (ts.getD (k : Int).toNat .nilp), .d (.int .u64 (t : Int)))
def eD (S : Bs) (p : Nat) : RV × RV := (.d (.str (cutL S (some (p : Int)) none)), .d (.str (S.drop p)))
def eE (S : Bs) (p : Nat) (b : Bool) : RV × RV := (.d (.bool ((((takeN (S.drop p)).2.2 : Nat) : Int) != 0)), .d (.bool b))
def eK (k : Nat) : RV × RV := (.d (.int .i64 (IntKind.i64.wrap ((k : Int) + 1))), .d (.int .i64 ((k + 1 : Nat) : Int)))

theorem cutL_drop (S : Bs) (p : Nat) : cutL S (some (p : Int)) none = S.drop p := by simp [cutL]
theorem i64_nat {n : Nat} (h : n ≤ 9223372036854775807) : IntKind.i64.wrap (n : Int) = n := i64_in _ (by omega)

theorem takeRow_bad1 {c : UInt8} {r l : Bs} {ts : List Nat} {i : Nat} (h16 : c.toNat ≤ 16) (hl : (c :: r).length ≤ 4000) (h : TGood c.toNat r i false l ts) : takeRow (c :: r) = none :=
  takeRow_flag h16 hl (ok1 := false) (ok := false) (l1 := []) (l := []) (ts := []) (row := []) h.2.2.2.2 rfl

theorem takeRow_bad2 {c : UInt8} {r l l0 : Bs} {ts : List Nat} {row : List Val} {k : Nat} (h16 : c.toNat ≤ 16) (hl : (c :: r).length ≤ 4000) (h1 : takeTags c.toNat r = some (ts, l0)) (h : BGood ts (takeBodies ts l0) k false l row) : takeRow (c :: r) = none :=
  takeRow_flag h16 hl (ok1 := true) (ok := false) (l1 := l0) (l := []) (ts := ts) (row := []) h1 h.2.2

set_option maxHeartbeats 1000000 in
theorem rt_loop2 (c : UInt8) (r : Bs) (h16 : c.toNat ≤ 16) (hl : (c :: r).length ≤ 4000) (tsN : List Nat) (l0 : Bs) (h1 : takeTags c.toNat r = some (tsN, l0)) (hts : tsN.length ≤ 16) (hlt : ∀ t ∈ tsN, t < 18446744073709551616) :
    ∀ y : List DV × Nat × Nat, (∃ row : List Val, y.1 = row.map vD ∧ y.2.1 ≤ (c :: r).length ∧ BGood tsN (takeBodies tsN l0) y.2.2 true ((c :: r).drop y.2.1) row) →
    WK Try.prog 0 (stackAt rtB 1) (l2 (c :: r) (tsN.map dN) y).den (fun s => ∃ r' objs' cc, finish (Env.of Try.prog) true 0 rtR s.R s.O = some (r', objs', cc) ∧ (∀ b ∈ cc, b = true) ∧ rtkQ (c :: r) r' objs') := by
  have ok := cfT_ok tabR_ok
  refine WK.rec' (l2 (c :: r) (tsN.map dN)) _ (fun y => tsN.length - y.2.2) ?_
  rintro ⟨rowD, p, k⟩ ⟨row, hrow, hp, hG⟩ ih
  simp only at hrow hp hG ih
  subst hrow
  generalize hS : c :: r = S at *
  have hlen : (tsN.map dN).length = tsN.length := by simp
  have hrl : row.length = k := hG.1
  have hkl : k ≤ tsN.length := hG.2.1
  have hR : ∀ x, cR (row.map vD) x = true := fun x => by simp [cR]; omega
  by_cases hk : k < tsN.length
  · obtain ⟨t, ht⟩ : ∃ t, tsN[k] = t := ⟨_, rfl⟩
    have htl : t < 18446744073709551616 := hlt t (by rw [← ht]; simp)
    have hget : (tsN.map dN).getD k .nilp = dN t := by simp [List.getD, hk, ht]
    have a1 : cA (tsN.map dN) k = true := by simp [cA, hk]
    have a2 : cB (tsN.map dN) k = true := by simp [cB, hk]
    have a3 : cC (tsN.map dN) k = true := by simp only [cC, Int.toNat_natCast]; rw [hget]; rfl
    have e1 : RVle (eLt (tsN.map dN) k true).1 (eLt (tsN.map dN) k true).2 := le_bool (by simp [hk])
    have e2 : RVle (eG (tsN.map dN) k t).1 (eG (tsN.map dN) k t).2 := .of_eq (by simp only [eG, Int.toNat_natCast]; rw [hget]; rfl)
    have eK' : RVle (eK k).1 (eK k).2 := .of_eq (by simp only [eK]; rw [show (k : Int) + 1 = ((k + 1 : Nat) : Int) by omega, i64_nat (by omega)])
    have hstep := hG.step hk
    rw [ht] at hstep
    simp only [Bool.true_and] at hstep
    have hdl : (S.drop p).length = S.length - p := by simp
    by_cases h0 : t = 0
    · subst h0
      refine WK.seg ok 1000 0 [(56, .d (.bool true)), (63, .d (.int .u64 0)), (84, .d (.int .u64 0)), (58, .d (.int .i64 ((k + 1 : Nat) : Int)))] {live := [0,4,5,9,10], olds := [100,1064], nws := [100,101]}
        [cA (tsN.map dN) k, cB (tsN.map dN) k, cC (tsN.map dN) k, cA (tsN.map dN) k, cB (tsN.map dN) k, cC (tsN.map dN) k, cR (row.map vD) (vD ⟨0, 0, []⟩)]
        [eLt (tsN.map dN) k true, eG (tsN.map dN) k 0, eG (tsN.map dN) k 0, eK k] rfl
        (by kernel_rfl : runSeg cfR _ _ _ _ _ (l2 S (tsN.map dN) (row.map vD, p, k)) = some (stackAt rtB 1, l2 S (tsN.map dN) (row.map vD ++ [vD ⟨0, 0, []⟩], p, k + 1), _, _)) ⟨a1, a2, a3, a1, a2, a3, hR _, trivial⟩ ⟨e1, e2, e2, eK', trivial⟩ ?_
      refine ih _ ⟨row ++ [⟨0, 0, []⟩], by simp, hp, ?_⟩ (by simp only; omega)
      simpa [bodyOk, bodyLeft, bodyVal] using hstep
    · by_cases h1' : t = 1
      · subst h1'
        have p1 : cP S p = true := by simp [cP]; omega
        have p2 : cL S p = true := by simp [cL]; omega
        have ed : RVle (eD S p).1 (eD S p).2 := .of_eq (by simp only [eD]; rw [cutL_drop])
        by_cases hx : (takeN (S.drop p)).2.2 = 0
        · obtain ⟨q1, q2, q3, q4, _⟩ := takeN_ok _ hx
          obtain ⟨n1, hn1⟩ : ∃ n1, (takeN (S.drop p)).1 = n1 := ⟨_, rfl⟩
          obtain ⟨s1, hs1⟩ : ∃ s1, (takeN (S.drop p)).2.1 = s1 := ⟨_, rfl⟩
          refine WK.seg ok 1000 0 [(56, .d (.bool true)), (63, .d (.int .u64 1)), (68, .d (.str (S.drop p))), (74, .d (.bool false)), (76, .d (.int .i64 (unfoldN n1))), (80, .d (.int .i64 ((p + s1 : Nat) : Int))), (84, .d (.int .u64 1)), (58, .d (.int .i64 ((k + 1 : Nat) : Int)))] {live := [0,4,5,9,10], olds := [100,1064], nws := [100,101]}
            [cA (tsN.map dN) k, cB (tsN.map dN) k, cC (tsN.map dN) k, cP S p, cL S p, decide (0 ≤ (((takeN (S.drop p)).1 : Nat) : Int)), decide ((((takeN (S.drop p)).1 : Nat) : Int).toNat < 18446744073709551616), cA (tsN.map dN) k, cB (tsN.map dN) k, cC (tsN.map dN) k, cR (row.map vD) (vD ⟨1, unfoldN n1, []⟩)]
            [eLt (tsN.map dN) k true, eG (tsN.map dN) k 1, eD S p, eE S p false, (.d (.int .i64 (unfoldN (((takeN (S.drop p)).1 : Nat) : Int).toNat)), .d (.int .i64 (unfoldN n1))), (.d (.int .i64 (IntKind.i64.wrap ((p : Int) + (((takeN (S.drop p)).2.1 : Nat) : Int)))), .d (.int .i64 ((p + s1 : Nat) : Int))), eG (tsN.map dN) k 1, eK k] rfl
            (by kernel_rfl : runSeg cfR _ _ _ _ _ (l2 S (tsN.map dN) (row.map vD, p, k)) = some (stackAt rtB 1, l2 S (tsN.map dN) (row.map vD ++ [vD ⟨1, unfoldN n1, []⟩], p + s1, k + 1), _, _))
            ⟨a1, a2, a3, p1, p2, by simp, by simp; exact q1, a1, a2, a3, hR _, trivial⟩ ⟨e1, e2, ed, le_bool (by simp [hx]), .of_eq (by rw [Int.toNat_natCast, hn1]), .of_eq (by rw [hs1, show (p : Int) + (s1 : Int) = ((p + s1 : Nat) : Int) by omega, i64_nat (by omega)]), e2, eK', trivial⟩ ?_
          refine ih _ ⟨row ++ [⟨1, unfoldN n1, []⟩], by simp, by simp only; omega, ?_⟩ (by simp only; omega)
          simpa [bodyOk, bodyLeft, bodyVal, hx, hn1, hs1] using hstep
        · refine WK.fin ok 1000 0 [(56, .d (.bool true)), (63, .d (.int .u64 1)), (68, .d (.str (S.drop p))), (74, .d (.bool true))]
            [cA (tsN.map dN) k, cB (tsN.map dN) k, cC (tsN.map dN) k, cP S p, cL S p] [eLt (tsN.map dN) k true, eG (tsN.map dN) k 1, eD S p, eE S p true] rfl
            (by kernel_rfl : runEnd cfR true rtR _ _ _ _ (l2 S (tsN.map dN) (row.map vD, p, k)) = some (.tup [.d (.lst 0 [] true), .d (.int .i64 7)], [], _, _)) ⟨a1, a2, a3, p1, p2, trivial⟩ ⟨e1, e2, ed, le_bool (by simp; exact hx), trivial⟩ (rtkQ_none ?_)
          subst hS
          have : bodyOk 1 ((c :: r).drop p) = false := by simp [bodyOk, hx]
          rw [this] at hstep; exact takeRow_bad2 h16 hl h1 hstep
      · have h2 : 2 ≤ t := by omega
        obtain ⟨n, hn⟩ : ∃ n, t / 2 - 1 = n := ⟨_, rfl⟩
        obtain ⟨b1, b2, b3⟩ := body_long t (S.drop p) h2
        have et1 : RVle (.d (.bool (((t : Nat) : Int) == 1))) (.d (.bool false)) := le_bool (by simp; omega)
        have et2 : RVle (.d (.bool (decide ((1 : Int) < (t : Int))))) (.d (.bool true)) := le_bool (by simp; omega)
        have hq : ((t : Int).tdiv 2) = ((t / 2 : Nat) : Int) := by rw [Int.tdiv_eq_ediv_of_nonneg (by omega)]; omega
        have en : RVle (.d (.int .u64 (IntKind.u64.wrap (IntKind.u64.wrap ((t : Int).tdiv 2) - 1)))) (.d (.int .u64 (n : Int))) := .of_eq (by
          have w1 : IntKind.u64.wrap ((t / 2 : Nat) : Int) = ((t / 2 : Nat) : Int) := u64_in _ (by omega)
          rw [hq, w1, show ((t / 2 : Nat) : Int) - 1 = (n : Int) by omega, u64_in _ (by omega)])
        have ok2 : ((2 : Int) != 0) = true := rfl
        by_cases hb1 : 1000 < n
        · refine WK.fin ok 1000 0 [(56, .d (.bool true)), (63, .d (.int .u64 t)), (64, .d (.bool false)), (84, .d (.int .u64 t)), (85, .d (.bool true)), (89, .d (.int .u64 t)), (91, .d (.int .u64 n)), (93, .d (.bool true))]
            [cA (tsN.map dN) k, cB (tsN.map dN) k, cC (tsN.map dN) k, cA (tsN.map dN) k, cB (tsN.map dN) k, cC (tsN.map dN) k, cA (tsN.map dN) k, cB (tsN.map dN) k, cC (tsN.map dN) k, true]
            [eLt (tsN.map dN) k true, eG (tsN.map dN) k t, (.d (.bool (((t : Nat) : Int) == 1)), .d (.bool false)), eG (tsN.map dN) k t, (.d (.bool (decide ((1 : Int) < (t : Int)))), .d (.bool true)), eG (tsN.map dN) k t, (.d (.int .u64 (IntKind.u64.wrap (IntKind.u64.wrap ((t : Int).tdiv 2) - 1))), .d (.int .u64 (n : Int))), (.d (.bool (decide ((1000 : Int) < (n : Int)))), .d (.bool true))] rfl
            (by kernel_rfl : runEnd cfR true rtR _ _ _ _ (l2 S (tsN.map dN) (row.map vD, p, k)) = some (.tup [.d (.lst 0 [] true), .d (.int .i64 7)], [], _, _)) ⟨a1, a2, a3, a1, a2, a3, a1, a2, a3, rfl, trivial⟩ ⟨e1, e2, et1, e2, et2, e2, en, le_bool (by simp; omega), trivial⟩ (rtkQ_none ?_)
          subst hS
          have : bodyOk t ((c :: r).drop p) = false := by rw [b2, hn]; apply decide_eq_false; omega
          rw [this] at hstep; exact takeRow_bad2 h16 hl h1 hstep
        · have en1 : RVle (.d (.bool (decide ((1000 : Int) < (n : Int))))) (.d (.bool false)) := le_bool (by simp; omega)
          have hw1 : IntKind.i64.wrap ((S.length : Int) - (p : Int)) = ((S.length - p : Nat) : Int) := by rw [show (S.length : Int) - (p : Int) = ((S.length - p : Nat) : Int) by omega, i64_nat (by omega)]
          have hw2 : IntKind.i64.wrap ((n : Nat) : Int) = (n : Int) := i64_nat (by omega)
          by_cases hb2 : S.length - p < n
          · refine WK.fin ok 1000 0 [(56, .d (.bool true)), (63, .d (.int .u64 t)), (64, .d (.bool false)), (84, .d (.int .u64 t)), (85, .d (.bool true)), (89, .d (.int .u64 t)), (91, .d (.int .u64 n)), (93, .d (.bool false)), (101, .d (.bool true))]
              [cA (tsN.map dN) k, cB (tsN.map dN) k, cC (tsN.map dN) k, cA (tsN.map dN) k, cB (tsN.map dN) k, cC (tsN.map dN) k, cA (tsN.map dN) k, cB (tsN.map dN) k, cC (tsN.map dN) k, true]
              [eLt (tsN.map dN) k true, eG (tsN.map dN) k t, (.d (.bool (((t : Nat) : Int) == 1)), .d (.bool false)), eG (tsN.map dN) k t, (.d (.bool (decide ((1 : Int) < (t : Int)))), .d (.bool true)), eG (tsN.map dN) k t, (.d (.int .u64 (IntKind.u64.wrap (IntKind.u64.wrap ((t : Int).tdiv 2) - 1))), .d (.int .u64 (n : Int))), (.d (.bool (decide ((1000 : Int) < (n : Int)))), .d (.bool false)),
                (.d (.bool (decide (IntKind.i64.wrap ((S.length : Int) - (p : Int)) < IntKind.i64.wrap (n : Int)))), .d (.bool true))] rfl
              (by kernel_rfl : runEnd cfR true rtR _ _ _ _ (l2 S (tsN.map dN) (row.map vD, p, k)) = some (.tup [.d (.lst 0 [] true), .d (.int .i64 7)], [], _, _)) ⟨a1, a2, a3, a1, a2, a3, a1, a2, a3, rfl, trivial⟩ ⟨e1, e2, et1, e2, et2, e2, en, en1, le_bool (by rw [hw1, hw2]; simp; omega), trivial⟩ (rtkQ_none ?_)
            subst hS
            have : bodyOk t ((c :: r).drop p) = false := by rw [b2, hn, hdl]; apply decide_eq_false; omega
            rw [this] at hstep; exact takeRow_bad2 h16 hl h1 hstep
          · have hpn : p + n ≤ S.length := by omega
            have hm : ((t : Int).tmod 2) = ((t % 2 : Nat) : Int) := by rw [Int.tmod_eq_emod_of_nonneg (by omega)]; omega
            refine WK.seg ok 1000 0 [(56, .d (.bool true)), (63, .d (.int .u64 t)), (64, .d (.bool false)), (84, .d (.int .u64 t)), (85, .d (.bool true)), (89, .d (.int .u64 t)), (91, .d (.int .u64 n)), (93, .d (.bool false)), (101, .d (.bool false)), (106, .d (.int .u64 t)), (109, .d (.int .u8 ((2 + t % 2 : Nat) : Int))), (115, .d (.int .i64 ((p + n : Nat) : Int))), (116, .d (.str ((S.drop p).take n))), (121, .d (.int .i64 ((p + n : Nat) : Int))), (58, .d (.int .i64 ((k + 1 : Nat) : Int)))] {live := [0,4,5,9,10], olds := [100,1064], nws := [100,101]}
              [cA (tsN.map dN) k, cB (tsN.map dN) k, cC (tsN.map dN) k, cA (tsN.map dN) k, cB (tsN.map dN) k, cC (tsN.map dN) k, cA (tsN.map dN) k, cB (tsN.map dN) k, cC (tsN.map dN) k, true, cA (tsN.map dN) k, cB (tsN.map dN) k, cC (tsN.map dN) k, true,
                cP S (p + n), decide (0 ≤ (p : Int) ∧ (p : Int) ≤ ((((p + n : Nat) : Int).toNat : Nat) : Int)), cR (row.map vD) (vD ⟨((2 + t % 2 : Nat) : Int), 0, (S.drop p).take n⟩)]
              [eLt (tsN.map dN) k true, eG (tsN.map dN) k t, (.d (.bool (((t : Nat) : Int) == 1)), .d (.bool false)), eG (tsN.map dN) k t, (.d (.bool (decide ((1 : Int) < (t : Int)))), .d (.bool true)), eG (tsN.map dN) k t, (.d (.int .u64 (IntKind.u64.wrap (IntKind.u64.wrap ((t : Int).tdiv 2) - 1))), .d (.int .u64 (n : Int))), (.d (.bool (decide ((1000 : Int) < (n : Int)))), .d (.bool false)),
                (.d (.bool (decide (IntKind.i64.wrap ((S.length : Int) - (p : Int)) < IntKind.i64.wrap (n : Int)))), .d (.bool false)), eG (tsN.map dN) k t,
                (.d (.int .u8 (IntKind.u8.wrap (IntKind.u64.wrap (2 + (t : Int).tmod 2)))), .d (.int .u8 ((2 + t % 2 : Nat) : Int))), (.d (.int .i64 (IntKind.i64.wrap ((p : Int) + IntKind.i64.wrap (n : Int)))), .d (.int .i64 ((p + n : Nat) : Int))),
                (.d (.str (cutL S (some (p : Int)) (some ((p + n : Nat) : Int)))), .d (.str ((S.drop p).take n))), (.d (.int .i64 (IntKind.i64.wrap ((p : Int) + IntKind.i64.wrap (n : Int)))), .d (.int .i64 ((p + n : Nat) : Int))), eK k] rfl
              (by kernel_rfl : runSeg cfR _ _ _ _ _ (l2 S (tsN.map dN) (row.map vD, p, k)) = some (stackAt rtB 1, l2 S (tsN.map dN) (row.map vD ++ [vD ⟨((2 + t % 2 : Nat) : Int), 0, (S.drop p).take n⟩], p + n, k + 1), _, _))
              ⟨a1, a2, a3, a1, a2, a3, a1, a2, a3, rfl, a1, a2, a3, rfl, by simp [cP]; omega, by simp; omega, hR _, trivial⟩
              ⟨e1, e2, et1, e2, et2, e2, en, en1, le_bool (by rw [hw1, hw2]; simp; omega), e2, .of_eq (by rw [hm, show (2 : Int) + ((t % 2 : Nat) : Int) = ((2 + t % 2 : Nat) : Int) by omega, u64_in _ (by omega), u8_in _ (by omega)]),
                .of_eq (by rw [hw2, show (p : Int) + (n : Int) = ((p + n : Nat) : Int) by omega, i64_nat (by omega)]), .of_eq (by simp only [cutL, Int.toNat_natCast]; rw [List.drop_take]; congr 3; omega),
                .of_eq (by rw [hw2, show (p : Int) + (n : Int) = ((p + n : Nat) : Int) by omega, i64_nat (by omega)]), eK', trivial⟩ ?_
            have m1 : min (min (t / 2 - 1) 4000) (S.drop p).length = n := by rw [hn, hdl]; omega
            have hok : bodyOk t (S.drop p) = true := by rw [b2, hn, hdl]; apply decide_eq_true; omega
            rw [hok, b1, b3, m1, List.drop_drop] at hstep
            refine ih _ ⟨row ++ [⟨((2 + t % 2 : Nat) : Int), 0, (S.drop p).take n⟩], by simp, hpn, ?_⟩ (by simp only; omega)
            simpa using hstep
  · have hke : k = tsN.length := by omega
    have hf := hG.fin hke
    simp only [if_true] at hf
    have hfl := takeRow_flag (c := c) (r := r) h16 (by rw [hS]; exact hl) (ok1 := true) (ok := true) (l1 := l0) (l := S.drop p) (ts := tsN) (row := row) (by simpa using h1) (by simpa using hf)
    rw [hS] at hfl
    have e1 : RVle (eLt (tsN.map dN) k false).1 (eLt (tsN.map dN) k false).2 := le_bool (by simp; omega)
    by_cases he : p = S.length
    · refine WK.fin ok 1000 0 [(56, .d (.bool false)), (129, .d (.bool false))] [] [eLt (tsN.map dN) k false, (.d (.bool ((p : Int) != (S.length : Int))), .d (.bool false))] rfl
        (by kernel_rfl : runEnd cfR true rtR _ _ _ _ (l2 S (tsN.map dN) (row.map vD, p, k)) = some (.tup [.d (.lst 3 (row.map vD) false), .d (.int .i64 0)], [], _, _)) trivial ⟨e1, le_bool (by simp [he]), trivial⟩ (rtkQ_some ?_)
      rw [hfl]; simp [he]
    · refine WK.fin ok 1000 0 [(56, .d (.bool false)), (129, .d (.bool true))] [] [eLt (tsN.map dN) k false, (.d (.bool ((p : Int) != (S.length : Int))), .d (.bool true))] rfl
        (by kernel_rfl : runEnd cfR true rtR _ _ _ _ (l2 S (tsN.map dN) (row.map vD, p, k)) = some (.tup [.d (.lst 0 [] true), .d (.int .i64 7)], [], _, _)) trivial ⟨e1, le_bool (by simp; omega), trivial⟩ (rtkQ_none ?_)
      rw [hfl, if_neg]
      simp; omega

def oneL1 (c : UInt8) (r : Bs) (y : List DV × Nat) : Prop := ∃ tsN : List Nat, y.1 = tsN.map dN ∧ y.2 ≤ (c :: r).length ∧ TGood c.toNat r tsN.length true ((c :: r).drop y.2) tsN

set_option maxHeartbeats 1000000 in
theorem rt_loop1 (c : UInt8) (r : Bs) (h16 : c.toNat ≤ 16) (hl : (c :: r).length ≤ 4000) : ∀ y : List DV × Nat, oneL1 c r y →
    WK Try.prog 0 (stackAt rtB 0) (l1 (c :: r) y).den (fun s => ∃ r' objs' cc, finish (Env.of Try.prog) true 0 rtR s.R s.O = some (r', objs', cc) ∧ (∀ b ∈ cc, b = true) ∧ rtkQ (c :: r) r' objs') := by
  have ok := cfT_ok tabR_ok
  refine WK.rec' (l1 (c :: r)) _ (fun y => 17 - y.1.length) ?_
  rintro ⟨tsD, p⟩ ⟨tsN, hts, hp, hG⟩ ih
  simp only at hts hp hG ih
  subst hts
  have hlen : (tsN.map dN).length = tsN.length := by simp
  have hic := hG.2.1
  have hc0 : decide (0 ≤ (0 : Int) ∧ (0 : Int) < ((c :: r).length : Int)) = true := by simp
  have hw : IntKind.i64.wrap ((((c :: r).getD (0 : Int).toNat 0).toNat : Nat) : Int) = (c.toNat : Int) := i64_nat (by show c.toNat ≤ _; omega)
  have eT : ∀ b, decide (tsN.length < c.toNat) = b → RVle (.d (.bool (decide (((tsN.map dN).length : Int) < IntKind.i64.wrap ((((c :: r).getD (0 : Int).toNat 0).toNat : Nat) : Int))))) (.d (.bool b)) := fun b hb => le_bool (by rw [hw, ← hb, hlen]; simp)
  by_cases hi : tsN.length < c.toNat
  · have p1 : cP (c :: r) p = true := by simp only [cP, decide_eq_true_eq]; omega
    have p2 : cL (c :: r) p = true := by simp only [cL, decide_eq_true_eq, List.length_drop]; omega
    have ed : RVle (eD (c :: r) p).1 (eD (c :: r) p).2 := .of_eq (by simp only [eD]; rw [cutL_drop])
    have hstep := hG.step hi
    simp only [Bool.true_and] at hstep
    by_cases hx : (takeN ((c :: r).drop p)).2.2 = 0
    · obtain ⟨q1, q2, q3, q4, _⟩ := takeN_ok _ hx
      obtain ⟨s1, hs1⟩ : ∃ s1, (takeN ((c :: r).drop p)).2.1 = s1 := ⟨_, rfl⟩
      rw [List.length_drop] at q4
      refine WK.seg ok 1000 0 [(35, .d (.bool true)), (39, .d (.str ((c :: r).drop p))), (45, .d (.bool false)), (52, .d (.int .i64 ((p + s1 : Nat) : Int)))] {live := [0,4,5], olds := [456], nws := [100]}
        [decide (0 ≤ (0 : Int) ∧ (0 : Int) < ((c :: r).length : Int)), cP (c :: r) p, cL (c :: r) p, decide (((tsN.map dN).length + 1) * 8 ≤ 2 ^ 38)]
        [(.d (.bool (decide (((tsN.map dN).length : Int) < IntKind.i64.wrap ((((c :: r).getD (0 : Int).toNat 0).toNat : Nat) : Int)))), .d (.bool true)), eD (c :: r) p, eE (c :: r) p false, (.d (.int .i64 (IntKind.i64.wrap ((p : Int) + (((takeN ((c :: r).drop p)).2.1 : Nat) : Int)))), .d (.int .i64 ((p + s1 : Nat) : Int)))] rfl
        (by kernel_rfl : runSeg cfR _ _ _ _ _ (l1 (c :: r) (tsN.map dN, p)) = some (stackAt rtB 0, l1 (c :: r) (tsN.map dN ++ [dN (takeN ((c :: r).drop p)).1], p + s1), _, _))
        ⟨hc0, p1, p2, by simp; omega, trivial⟩ ⟨eT _ (by simp [hi]), ed, le_bool (by simp [hx]), .of_eq (by rw [hs1, show (p : Int) + (s1 : Int) = ((p + s1 : Nat) : Int) by omega, i64_nat (by omega)]), trivial⟩ ?_
      refine ih _ ⟨tsN ++ [(takeN ((c :: r).drop p)).1], by simp, by simp only; omega, ?_⟩ (by simp; omega)
      rw [hx, List.drop_drop, hs1] at hstep
      simpa using hstep
    · refine WK.fin ok 1000 0 [(35, .d (.bool true)), (39, .d (.str ((c :: r).drop p))), (45, .d (.bool true))]
        [decide (0 ≤ (0 : Int) ∧ (0 : Int) < ((c :: r).length : Int)), cP (c :: r) p, cL (c :: r) p]
        [(.d (.bool (decide (((tsN.map dN).length : Int) < IntKind.i64.wrap ((((c :: r).getD (0 : Int).toNat 0).toNat : Nat) : Int)))), .d (.bool true)), eD (c :: r) p, eE (c :: r) p true] rfl
        (by kernel_rfl : runEnd cfR true rtR _ _ _ _ (l1 (c :: r) (tsN.map dN, p)) = some (.tup [.d (.lst 0 [] true), .d (.int .i64 7)], [], _, _)) ⟨hc0, p1, p2, trivial⟩ ⟨eT _ (by simp [hi]), ed, le_bool (by simp; exact hx), trivial⟩ (rtkQ_none ?_)
      rw [decide_eq_false hx] at hstep
      exact takeRow_bad1 h16 hl hstep
  · have he : tsN.length = c.toNat := by omega
    have hf := (he ▸ hG).fin
    simp only [if_true] at hf
    refine WK.seg ok 1000 0 [(35, .d (.bool false))] {nils := [(9, 101, 49, 3)], live := [0,4,5,9,10], olds := [100,101], nws := [100,101]}
      [decide (0 ≤ (0 : Int) ∧ (0 : Int) < ((c :: r).length : Int))]
      [(.d (.bool (decide (((tsN.map dN).length : Int) < IntKind.i64.wrap ((((c :: r).getD (0 : Int).toNat 0).toNat : Nat) : Int)))), .d (.bool false))] rfl
      (by kernel_rfl : runSeg cfR _ _ _ _ _ (l1 (c :: r) (tsN.map dN, p)) = some (stackAt rtB 1, l2 (c :: r) (tsN.map dN) ([], p, 0), _, _)) ⟨hc0, trivial⟩ ⟨eT _ (by simp [hi]), trivial⟩ ?_
    refine rt_loop2 c r h16 hl tsN _ hf (by omega) hG.2.2.2.1 ([], p, 0) ⟨[], rfl, hp, ?_⟩
    exact BGood.start _ true _

theorem C_tup {P : Program} {f : FuncId} {args : List RV} {objs o' : List PObj} {l : List DV} (h : C P f args objs (fun r o => r = .tup (l.map .d) ∧ o = o')) : C P f args objs (fun r o => r = .d (.tup l) ∧ o = o') := by
  intro κ φ w vs h1 h2 h3 h4
  refine (h κ φ w vs h1 h2 h3 h4).mono ?_
  rintro e w' ⟨v, r, o, κ', φ', rfl, ⟨rfl, rfl⟩, hr, q⟩
  refine ⟨v, _, _, κ', φ', rfl, ⟨rfl, rfl⟩, ?_, q⟩
  cases hr with
  | tup hl hr =>
    refine .d (.tup (by simpa using hl) (fun i x u hx hu => ?_))
    have := hr i (.d x) u (by simp [hx]) hu
    cases this with
    | d h => exact h

theorem rtk_c (S : Bs) : C Try.prog 48 [.d (.str S)] [] (fun r o => r = .d (.tup [rtkL S, .int .i64 (if takeRow S = none then 7 else 0)]) ∧ o = []) := by
  have ok := cfT_ok tabR_ok
  refine C_tup (l := [rtkL S, .int .i64 (if takeRow S = none then 7 else 0)]) ?_
  refine C_of_run (fn := Try.f48) (body := rtB) true (by kernel_rfl) (by kernel_rfl) (by kernel_rfl) ?_
  cases S with
  | nil => exact WK.fin ok 1000 0 [] [] [] rfl (by kernel_rfl : runEnd cfR true rtR 1000 0 _ _ (ini 131 [.d (.str [])] []) = some (.tup [.d (.lst 0 [] true), .d (.int .i64 7)], [], _, _)) trivial trivial (rtkQ_none takeRow_nil)
  | cons c r =>
    by_cases hl : 4000 < (c :: r).length
    · exact WK.fin ok 1000 0 [(19, .d (.bool false)), (24, .d (.bool true))] [] [(.d (.bool false), .d (.bool false)), (.d (.bool (decide ((4000 : Int) < ((c :: r).length : Int)))), .d (.bool true))] rfl
        (by kernel_rfl : runEnd cfR true rtR 1000 0 _ _ (ini 131 [.d (.str (c :: r))] []) = some (.tup [.d (.lst 0 [] true), .d (.int .i64 7)], [], _, _)) trivial ⟨.of_eq rfl, le_bool (by simp at hl ⊢; omega), trivial⟩ (rtkQ_none (takeRow_long hl))
    · have hw : IntKind.i64.wrap ((((c :: r).getD (0 : Int).toNat 0).toNat : Nat) : Int) = (c.toNat : Int) := i64_nat (by show c.toNat ≤ _; have := c.toNat_lt; omega)
      by_cases h16 : 16 < c.toNat
      · exact WK.fin ok 1000 0 [(19, .d (.bool false)), (24, .d (.bool false)), (29, .d (.bool true))] [decide (0 ≤ (0 : Int) ∧ (0 : Int) < ((c :: r).length : Int))]
          [(.d (.bool false), .d (.bool false)), (.d (.bool (decide ((4000 : Int) < ((c :: r).length : Int)))), .d (.bool false)), (.d (.bool (decide ((16 : Int) < IntKind.i64.wrap ((((c :: r).getD (0 : Int).toNat 0).toNat : Nat) : Int)))), .d (.bool true))] rfl
          (by kernel_rfl : runEnd cfR true rtR 1000 0 _ _ (ini 131 [.d (.str (c :: r))] []) = some (.tup [.d (.lst 0 [] true), .d (.int .i64 7)], [], _, _)) ⟨by simp, trivial⟩ ⟨.of_eq rfl, le_bool (by simp at hl ⊢; omega), le_bool (by rw [hw]; simp; omega), trivial⟩ (rtkQ_none (takeRow_many h16))
      · refine WK.seg ok 1000 0 [(19, .d (.bool false)), (24, .d (.bool false)), (29, .d (.bool false))] {nils := [(5, 100, 61, 1)], live := [0,4,5], olds := [100], nws := [100]} [decide (0 ≤ (0 : Int) ∧ (0 : Int) < ((c :: r).length : Int))]
          [(.d (.bool false), .d (.bool false)), (.d (.bool (decide ((4000 : Int) < ((c :: r).length : Int)))), .d (.bool false)), (.d (.bool (decide ((16 : Int) < IntKind.i64.wrap ((((c :: r).getD (0 : Int).toNat 0).toNat : Nat) : Int)))), .d (.bool false))] rfl
          (by kernel_rfl : runSeg cfR 1000 0 _ _ _ (ini 131 [.d (.str (c :: r))] []) = some (stackAt rtB 0, l1 (c :: r) ([], 1), _, _)) ⟨by simp, trivial⟩ ⟨.of_eq rfl, le_bool (by simp at hl ⊢; omega), le_bool (by rw [hw]; simp; omega), trivial⟩ ?_
        exact rt_loop1 c r (by omega) (by omega) ([], 1) ⟨[], rfl, by simp, TGood.start _ _⟩

def rtkG : DV → Option (DV × List Bool)
  | .str s => some (.tup [rtkL s, .int .i64 (if takeRow s = none then 7 else 0)], [])
  | _ => none
theorem rtk_ent : EntOk Try.prog 48 (e1 rtkG) := by
  refine e1_ok fun x y c hg hc => ?_
  unfold rtkG at hg
  split at hg
  · simp only [Option.some.injEq, Prod.mk.injEq] at hg
    obtain ⟨rfl, rfl⟩ := hg
    exact rtk_c _
  · cases hg
end Go.Proofs.Ytljfolepmkcjlaa
