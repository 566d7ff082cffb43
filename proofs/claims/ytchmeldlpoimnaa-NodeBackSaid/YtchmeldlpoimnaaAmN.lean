/-
  Pages: their data, and the node layer's small functions run.
-/
import Derived.Test.YtchmeldlpoimnaaAmTb
import Derived.IntWalk
namespace Go.Proofs.Ytchmeldlpoimnaa
open Go.RowKit Am IntWalk
set_option maxRecDepth 100000
set_option linter.unusedSimpArgs false

abbrev Bs := List UInt8
structure Cel where
  key : Bs
  size : Int
  loc : Bs
  page : Int
structure Nod where
  kind : Int
  first : Int
  cells : List Cel
  data : Bs
def cD (c : Cel) : DV := .agg [.str c.key, .int .i64 c.size, .str c.loc, .int .i64 c.page]
def nD (n : Nod) : DV := .agg [.int .u8 n.kind, .int .i64 n.first, .lst 4 (n.cells.map cD) false, .str n.data]
def toCel : DV → Cel
  | .agg [.str k, .int _ s, .str l, .int _ p] => ⟨k, s, l, p⟩
  | _ => ⟨[], 0, [], 0⟩
def isCel : DV → Bool
  | .agg [.str _, .int .i64 _, .str _, .int .i64 _] => true
  | _ => false
theorem isCel_spec {x : DV} (h : isCel x = true) : x = cD (toCel x) := by
  unfold isCel at h
  split at h
  · rfl
  · cases h
theorem toCel_cD (c : Cel) : toCel (cD c) = c := rfl
theorem map_toCel : ∀ {els : List DV}, els.all isCel = true → els = (els.map toCel).map cD
  | [], _ => rfl
  | x :: r, h => by
    simp only [List.all_cons, Bool.and_eq_true] at h
    simp only [List.map_cons]
    rw [← isCel_spec h.1, ← map_toCel h.2]
theorem toCel_map (l : List Cel) : (l.map cD).map toCel = l := by
  induction l with
  | nil => rfl
  | cons c r ih => simp only [List.map_cons, toCel_cD, ih]
theorem all_isCel (l : List Cel) : (l.map cD).all isCel = true := by
  simp only [List.all_eq_true, List.mem_map]
  rintro x ⟨c, _, rfl⟩
  rfl

noncomputable def cfT (l : List (Nat × Ent)) : Cfg := { E := Env.of Try.prog, K := konOf l, byref := fun _ => false, callOk := cok }
theorem cfT_ok {l : List (Nat × Ent)} (h : EntsOk Try.prog l) : Ok Try.prog (cfT l) := ⟨⟨rfl, konOf_ok h, fun _ h => h⟩, mixed⟩

/-- A page's number, from one on. -/
def pageB (n m : Int) : Bool := decide (m ≤ n) && decide (n ≤ 256)
def pageG : DV → DV → Option (DV × List Bool)
  | .int .i64 n, .int .i64 m => some (.bool (pageB n m), [])
  | _, _ => none
theorem page_c (n m : Int) : C Try.prog 100 [.d (.int .i64 n), .d (.int .i64 m)] [] (fun r o => r = .d (.bool (pageB n m)) ∧ o = []) := by
  have ok := cfT_ok (l := []) .nil
  refine C_of_run (fn := Try.f100) (body := (Try.f100.body).getD .skip) true (by kernel_rfl) (by kernel_rfl) (by kernel_rfl) ?_
  cases h8 : decide (m ≤ n) with
  | true => exact WK.fin ok 1000 0 [(8, .d (.bool true))] [] [(.d (.bool (decide (m ≤ n))), .d (.bool true))] rfl (by kernel_rfl : runEnd (cfT []) true _ 1000 0 _ _ (ini 12 [.d (.int .i64 n), .d (.int .i64 m)] []) = some (.d (.bool (decide (n ≤ 256))), [], _, _)) trivial ⟨le_bool h8, trivial⟩ ⟨by simp [pageB, h8], rfl⟩
  | false => exact WK.fin ok 1000 0 [(8, .d (.bool false))] [] [(.d (.bool (decide (m ≤ n))), .d (.bool false))] rfl (by kernel_rfl : runEnd (cfT []) true _ 1000 0 _ _ (ini 12 [.d (.int .i64 n), .d (.int .i64 m)] []) = some (.d (.bool false), [], _, _)) trivial ⟨le_bool h8, trivial⟩ ⟨by simp [pageB, h8], rfl⟩
theorem ent2 {f : Nat} {g : DV → DV → Option (DV × List Bool)} (h : ∀ x x2 y c, g x x2 = some (y, c) → (∀ b ∈ c, b = true) → C Try.prog f [.d x, .d x2] [] (fun r o => r = .d y ∧ o = [])) : EntOk Try.prog f (e2 g) := e2_ok h
theorem page_ent : EntOk Try.prog 100 (e2 pageG) := by
  refine ent2 fun x x2 y c hg _ => ?_
  unfold pageG at hg
  split at hg
  · simp only [Option.some.injEq, Prod.mk.injEq] at hg
    obtain ⟨rfl, rfl⟩ := hg
    exact page_c _ _
  · cases hg
noncomputable def tnA : List (Nat × Ent) := [(100, e2 pageG)]
theorem tnA_ok : EntsOk Try.prog tnA := .cons page_ent .nil

def cellB (k : Int) (c : Cel) : Bool :=
  if decide ((100 : Int) < (c.key.length : Int)) then false else
  if (k == 2) then (c.size == 0) && (c.loc == []) && pageB c.page 1 else
  if decide (c.size < 0) || decide (4000 < c.size) || ((c.loc.length : Int) != (if 100 < c.size then 100 else c.size)) then false else
  if decide (100 < c.size) then pageB c.page 1 else c.page == 0

theorem cell_c (k : Int) (c : Cel) : C Try.prog 101 [.d (.int .u8 k), .d (cD c)] [] (fun r o => r = .d (.bool (cellB k c)) ∧ o = []) := by
  have ok := cfT_ok tnA_ok
  refine C_of_run (fn := Try.f101) (body := (Try.f101.body).getD .skip) true (by kernel_rfl) (by kernel_rfl) (by kernel_rfl) ?_
  cases h8 : (decide (100 < (Nat.cast (R := Int) (List.length c.key))) : Bool) with
  | true =>
    exact WK.fin ok 1000 0 [(8, RV.d (DV.bool true))] [] [(RV.d (DV.bool (decide (100 < (Nat.cast (R := Int) (List.length c.key))))), RV.d (DV.bool true))] rfl (by kernel_rfl : runEnd (cfT tnA) true _ 1000 0 _ _ (ini 50 [.d (.int .u8 k), .d (cD c)] []) = some (RV.d (DV.bool false), [], _, _)) trivial ⟨le_bool h8, trivial⟩ ⟨by simp [cellB, pageB, *], rfl⟩
  | false =>
    cases h10 : (k == 2 : Bool) with
    | true =>
      cases h14 : (c.2 == 0 : Bool) with
      | true =>
        cases h19 : (c.3 == [] : Bool) with
        | true =>
          exact WK.fin ok 1000 0 [(8, RV.d (DV.bool false)), (10, RV.d (DV.bool true)), (14, RV.d (DV.bool true)), (19, RV.d (DV.bool true))] [] [(RV.d (DV.bool (decide (100 < (Nat.cast (R := Int) (List.length c.key))))), RV.d (DV.bool false)), (RV.d (DV.bool (k == 2)), RV.d (DV.bool true)), (RV.d (DV.bool (c.2 == 0)), RV.d (DV.bool true)), (RV.d (DV.bool (c.3 == [])), RV.d (DV.bool true))] rfl (by kernel_rfl : runEnd (cfT tnA) true _ 1000 0 _ _ (ini 50 [.d (.int .u8 k), .d (cD c)] []) = some (RV.d (DV.bool (decide (1 ≤ c.page) && decide (c.page ≤ 256))), [], _, _)) trivial ⟨le_bool h8, le_bool h10, le_bool h14, le_bool h19, trivial⟩ ⟨by simp [cellB, pageB, *], rfl⟩
        | false =>
          exact WK.fin ok 1000 0 [(8, RV.d (DV.bool false)), (10, RV.d (DV.bool true)), (14, RV.d (DV.bool true)), (19, RV.d (DV.bool false))] [] [(RV.d (DV.bool (decide (100 < (Nat.cast (R := Int) (List.length c.key))))), RV.d (DV.bool false)), (RV.d (DV.bool (k == 2)), RV.d (DV.bool true)), (RV.d (DV.bool (c.2 == 0)), RV.d (DV.bool true)), (RV.d (DV.bool (c.3 == [])), RV.d (DV.bool false))] rfl (by kernel_rfl : runEnd (cfT tnA) true _ 1000 0 _ _ (ini 50 [.d (.int .u8 k), .d (cD c)] []) = some (RV.d (DV.bool false), [], _, _)) trivial ⟨le_bool h8, le_bool h10, le_bool h14, le_bool h19, trivial⟩ ⟨by simp [cellB, pageB, *], rfl⟩
      | false =>
        exact WK.fin ok 1000 0 [(8, RV.d (DV.bool false)), (10, RV.d (DV.bool true)), (14, RV.d (DV.bool false))] [] [(RV.d (DV.bool (decide (100 < (Nat.cast (R := Int) (List.length c.key))))), RV.d (DV.bool false)), (RV.d (DV.bool (k == 2)), RV.d (DV.bool true)), (RV.d (DV.bool (c.2 == 0)), RV.d (DV.bool false))] rfl (by kernel_rfl : runEnd (cfT tnA) true _ 1000 0 _ _ (ini 50 [.d (.int .u8 k), .d (cD c)] []) = some (RV.d (DV.bool false), [], _, _)) trivial ⟨le_bool h8, le_bool h10, le_bool h14, trivial⟩ ⟨by simp [cellB, pageB, *], rfl⟩
    | false =>
      cases h27 : (decide (c.size < 0) : Bool) with
      | true =>
        exact WK.fin ok 1000 0 [(8, RV.d (DV.bool false)), (10, RV.d (DV.bool false)), (27, RV.d (DV.bool true))] [] [(RV.d (DV.bool (decide (100 < (Nat.cast (R := Int) (List.length c.key))))), RV.d (DV.bool false)), (RV.d (DV.bool (k == 2)), RV.d (DV.bool false)), (RV.d (DV.bool (decide (c.size < 0))), RV.d (DV.bool true))] rfl (by kernel_rfl : runEnd (cfT tnA) true _ 1000 0 _ _ (ini 50 [.d (.int .u8 k), .d (cD c)] []) = some (RV.d (DV.bool false), [], _, _)) trivial ⟨le_bool h8, le_bool h10, le_bool h27, trivial⟩ ⟨by simp [cellB, pageB, *], rfl⟩
      | false =>
        cases h32 : (decide (4000 < c.size) : Bool) with
        | true =>
          exact WK.fin ok 1000 0 [(8, RV.d (DV.bool false)), (10, RV.d (DV.bool false)), (27, RV.d (DV.bool false)), (32, RV.d (DV.bool true))] [] [(RV.d (DV.bool (decide (100 < (Nat.cast (R := Int) (List.length c.key))))), RV.d (DV.bool false)), (RV.d (DV.bool (k == 2)), RV.d (DV.bool false)), (RV.d (DV.bool (decide (c.size < 0))), RV.d (DV.bool false)), (RV.d (DV.bool (decide (4000 < c.size))), RV.d (DV.bool true))] rfl (by kernel_rfl : runEnd (cfT tnA) true _ 1000 0 _ _ (ini 50 [.d (.int .u8 k), .d (cD c)] []) = some (RV.d (DV.bool false), [], _, _)) trivial ⟨le_bool h8, le_bool h10, le_bool h27, le_bool h32, trivial⟩ ⟨by simp [cellB, pageB, *], rfl⟩
        | false =>
          cases h40 : ((Nat.cast (R := Int) (List.length c.3)) != if 100 < c.size then 100 else c.2 : Bool) with
          | true =>
            exact WK.fin ok 1000 0 [(8, RV.d (DV.bool false)), (10, RV.d (DV.bool false)), (27, RV.d (DV.bool false)), (32, RV.d (DV.bool false)), (40, RV.d (DV.bool true))] [] [(RV.d (DV.bool (decide (100 < (Nat.cast (R := Int) (List.length c.key))))), RV.d (DV.bool false)), (RV.d (DV.bool (k == 2)), RV.d (DV.bool false)), (RV.d (DV.bool (decide (c.size < 0))), RV.d (DV.bool false)), (RV.d (DV.bool (decide (4000 < c.size))), RV.d (DV.bool false)), (RV.d (DV.bool ((Nat.cast (R := Int) (List.length c.3)) != if 100 < c.size then 100 else c.2)), RV.d (DV.bool true))] rfl (by kernel_rfl : runEnd (cfT tnA) true _ 1000 0 _ _ (ini 50 [.d (.int .u8 k), .d (cD c)] []) = some (RV.d (DV.bool false), [], _, _)) trivial ⟨le_bool h8, le_bool h10, le_bool h27, le_bool h32, le_bool h40, trivial⟩ ⟨by simp [cellB, pageB, *], rfl⟩
          | false =>
            cases h43 : (decide (100 < c.size) : Bool) with
            | true =>
              exact WK.fin ok 1000 0 [(8, RV.d (DV.bool false)), (10, RV.d (DV.bool false)), (27, RV.d (DV.bool false)), (32, RV.d (DV.bool false)), (40, RV.d (DV.bool false)), (43, RV.d (DV.bool true))] [] [(RV.d (DV.bool (decide (100 < (Nat.cast (R := Int) (List.length c.key))))), RV.d (DV.bool false)), (RV.d (DV.bool (k == 2)), RV.d (DV.bool false)), (RV.d (DV.bool (decide (c.size < 0))), RV.d (DV.bool false)), (RV.d (DV.bool (decide (4000 < c.size))), RV.d (DV.bool false)), (RV.d (DV.bool ((Nat.cast (R := Int) (List.length c.3)) != if 100 < c.size then 100 else c.2)), RV.d (DV.bool false)), (RV.d (DV.bool (decide (100 < c.size))), RV.d (DV.bool true))] rfl (by kernel_rfl : runEnd (cfT tnA) true _ 1000 0 _ _ (ini 50 [.d (.int .u8 k), .d (cD c)] []) = some (RV.d (DV.bool (decide (1 ≤ c.page) && decide (c.page ≤ 256))), [], _, _)) trivial ⟨le_bool h8, le_bool h10, le_bool h27, le_bool h32, le_bool h40, le_bool h43, trivial⟩ ⟨by simp [cellB, pageB, *], rfl⟩
            | false =>
              exact WK.fin ok 1000 0 [(8, RV.d (DV.bool false)), (10, RV.d (DV.bool false)), (27, RV.d (DV.bool false)), (32, RV.d (DV.bool false)), (40, RV.d (DV.bool false)), (43, RV.d (DV.bool false))] [] [(RV.d (DV.bool (decide (100 < (Nat.cast (R := Int) (List.length c.key))))), RV.d (DV.bool false)), (RV.d (DV.bool (k == 2)), RV.d (DV.bool false)), (RV.d (DV.bool (decide (c.size < 0))), RV.d (DV.bool false)), (RV.d (DV.bool (decide (4000 < c.size))), RV.d (DV.bool false)), (RV.d (DV.bool ((Nat.cast (R := Int) (List.length c.3)) != if 100 < c.size then 100 else c.2)), RV.d (DV.bool false)), (RV.d (DV.bool (decide (100 < c.size))), RV.d (DV.bool false))] rfl (by kernel_rfl : runEnd (cfT tnA) true _ 1000 0 _ _ (ini 50 [.d (.int .u8 k), .d (cD c)] []) = some (RV.d (DV.bool (c.4 == 0)), [], _, _)) trivial ⟨le_bool h8, le_bool h10, le_bool h27, le_bool h32, le_bool h40, le_bool h43, trivial⟩ ⟨by simp [cellB, pageB, *], rfl⟩

def cellG : DV → DV → Option (DV × List Bool)
  | .int .u8 k, x => some (.bool (cellB k (toCel x)), [isCel x])
  | _, _ => none
theorem cell_ent : EntOk Try.prog 101 (e2 cellG) := by
  refine ent2 fun x x2 y c hg hc => ?_
  unfold cellG at hg
  split at hg
  · rename_i k
    simp only [Option.some.injEq, Prod.mk.injEq] at hg
    obtain ⟨rfl, rfl⟩ := hg
    have h0 : isCel x2 = true := hc _ (by simp)
    have := cell_c k (toCel x2)
    rw [← isCel_spec h0] at this
    exact this
  · cases hg
noncomputable def tnB : List (Nat × Ent) := (101, e2 cellG) :: tnA
theorem tnB_ok : EntsOk Try.prog tnB := .cons cell_ent tnA_ok
end Go.Proofs.Ytchmeldlpoimnaa
