/-
  The reference's numbers.
-/
import Derived.Test.YtchmeldlpoimnaaAmR2
namespace Go.Proofs.Ytchmeldlpoimnaa
open Go.RowKit Am IntWalk
set_option maxRecDepth 100000

noncomputable abbrev KF : Kon := layer Try.prog (konOf trB0) brf cok 300 12 2
def fw (x : Int) : Int := IntKind.u64.wrap x
def fq (y : Int) : Int := IntKind.u64.wrap (y.tdiv 256)
def fb (y : Int) : UInt8 := DV.byte (.int .u8 (IntKind.u8.wrap (y.tmod 256)))
def fix1 (x : Int) : Bs := [fb (fw x)]
def fix2 (x : Int) : Bs := [fb (fq (fw x)), fb (fw x)]
def fix4 (x : Int) : Bs := [fb (fq (fq (fq (fw x)))), fb (fq (fq (fw x))), fb (fq (fw x)), fb (fw x)]
theorem u64_in (x : Int) (h0 : 0 ≤ x) (h1 : x ≤ 1000000000) : IntKind.u64.wrap x = x := Int.emod_eq_of_lt h0 (Int.lt_of_le_of_lt h1 (by decide))
theorem fq_in (y : Int) (h0 : 0 ≤ y) (h1 : y ≤ 1000000000) : fq y = y / 256 := by
  rw [fq, Int.tdiv_eq_ediv_of_nonneg h0, u64_in _ (by omega) (by omega)]
theorem fb_in (y : Int) (h0 : 0 ≤ y) : fb y = bY y := by
  unfold fb bY
  rw [Int.tmod_eq_emod_of_nonneg h0]
  have : IntKind.u8.wrap (y % 256) = IntKind.u8.wrap y := Int.emod_emod_of_dvd y (by decide)
  rw [this]
theorem fdiv_one (x : Int) : x.fdiv 1 = x := by simp
theorem fdiv_ed (x : Int) (k : Int) (h : 0 ≤ k) : x.fdiv k = x / k := Int.fdiv_eq_ediv_of_nonneg x h
theorem fix1_in (x : Int) (h0 : 0 ≤ x) (h1 : x ≤ 1000000000) : fix1 x = [bY x] := by
  rw [fix1, fw, u64_in x h0 h1, fb_in x h0]
theorem fix2_in (x : Int) (h0 : 0 ≤ x) (h1 : x ≤ 1000000000) : fix2 x = num2 x := by
  rw [fix2, fw, u64_in x h0 h1, fb_in x h0, fq_in x h0 h1, fb_in _ (by omega), num2, fdiv_one, fdiv_ed x 256 (by decide)]
theorem fix4_in (x : Int) (h0 : 0 ≤ x) (h1 : x ≤ 1000000000) : fix4 x = num4 x := by
  rw [fix4, fw, u64_in x h0 h1, fq_in x h0 h1, fq_in (x / 256) (by omega) (by omega), fq_in (x / 256 / 256) (by omega) (by omega), fb_in x h0, fb_in (x / 256) (by omega), fb_in (x / 256 / 256) (by omega), fb_in (x / 256 / 256 / 256) (by omega), num4, fdiv_one, fdiv_ed x 256 (by decide), fdiv_ed x 65536 (by decide), fdiv_ed x 16777216 (by decide)]
  have e1 : x / 256 / 256 = x / 65536 := by omega
  have e2 : x / 65536 / 256 = x / 16777216 := by omega
  rw [e1, e2]

def nmR (x m : Int) : Bs := if m = 1 then [bY x] else if m = 2 then num2 x else num4 x
theorem nmR_1 (x : Int) : nmR x 1 = [bY x] := rfl
theorem nmR_2 (x : Int) : nmR x 2 = num2 x := rfl
theorem nmR_4 (x : Int) : nmR x 4 = num4 x := rfl
def nmG : DV → DV → Option (DV × List Bool)
  | .int .i64 x, .int .i64 m => some (.str (nmR x m), [decide (0 ≤ x), decide (x ≤ 1000000000), decide (m = 1 ∨ m = 2 ∨ m = 4)])
  | _, _ => none
theorem nm_ent : EntOk Try.prog 75 (e2 nmG) := by
  refine ent2 fun a b y c hg hc => ?_
  unfold nmG at hg
  split at hg
  · rename_i x m
    simp only [Option.some.injEq, Prod.mk.injEq] at hg
    obtain ⟨rfl, rfl⟩ := hg
    have h0 : 0 ≤ x := of_decide_eq_true (hc _ (.head _))
    have h1 : x ≤ 1000000000 := of_decide_eq_true (hc _ (.tail _ (.head _)))
    have h2 : m = 1 ∨ m = 2 ∨ m = 4 := of_decide_eq_true (hc _ (.tail _ (.tail _ (.head _))))
    rcases h2 with rfl | rfl | rfl
    · rw [nmR_1, ← fix1_in x h0 h1]
      exact (lay_ok trB0 trB0_ok brf 300 12 2).use [true, true, true, true] (by kernel_rfl : KF 75 [.d (.int .i64 x), .d (.int .i64 1)] [] = some (.d (.str (fix1 x)), [], _)) rfl
    · rw [nmR_2, ← fix2_in x h0 h1]
      exact (lay_ok trB0 trB0_ok brf 300 12 2).use [true, true, true, true, true, true, true] (by kernel_rfl : KF 75 [.d (.int .i64 x), .d (.int .i64 2)] [] = some (.d (.str (fix2 x)), [], _)) rfl
    · rw [nmR_4, ← fix4_in x h0 h1]
      exact (lay_ok trB0 trB0_ok brf 300 12 2).use [true, true, true, true, true, true, true, true, true, true, true, true, true] (by kernel_rfl : KF 75 [.d (.int .i64 x), .d (.int .i64 4)] [] = some (.d (.str (fix4 x)), [], _)) rfl
  · cases hg
noncomputable def trC : List (Nat × Ent) := (75, e2 nmG) :: trB0
theorem trC_ok : EntsOk Try.prog trC := .cons nm_ent trB0_ok
noncomputable abbrev rbC : Code := (Try.f33.body).getD .skip
def rbS (r : Nat) (n : Nod) (s : Bs) (i : Nat) : ESt := { n := 124, m := 0, regs := T.mk [(1, .ptr 200 0), (3, .d (.str s)), (r, .d (.int .i64 (i : Int)))], objs := T.mk [(200, .box 39 [.d (.int .u8 n.kind), .d (.int .i64 n.first), .d (.lst 4 (n.cells.map cD) false), .d (.str n.data)])] }
end Go.Proofs.Ytchmeldlpoimnaa
