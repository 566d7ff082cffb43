/-
  Texts that the claim leans on, one behind the other, part 7.
-/
import Derived.Test.YtljfolepmkcjlaaXb6
import Derived.WalkKit
import Derived.Below
import Derived.OwnWalk
import Derived.Deep.OwnRows
import Derived.Lib.SliceRun

/-
  A change's name, run; and that no two changes of different tables or keys have one name.
-/
namespace Go.Proofs.Ytljfolepmkcjlaa
open Go.RowKit Plain Am IntWalk
set_option maxRecDepth 100000
set_option linter.unusedVariables false
set_option linter.unusedSimpArgs false

noncomputable abbrev wsC : Code := bodyOf Try.f53
noncomputable abbrev wbC : Code := bodyOf Try.f86
noncomputable abbrev foC : Code := bodyOf Try.f99
noncomputable abbrev eiC : Code := bodyOf Try.f85
noncomputable abbrev naC : Code := bodyOf Try.f71
abbrev blT : Nat := 72
abbrev u8T : Nat := 5
def wsE : Ent := fun a o => match a, o with
  | [.ptr 0 0, .d (.str x)], [.box T [.ptr 0 0, .own 1 1], .arr E 1 els] => some (.tup [.d (.int .i64 x.length), .d .nili], [.box T [.ptr 0 0, .own 2 1], .gone, .arr E 1 (els ++ u8s x)], [Nat.beq T blT, Nat.beq E u8T, decide (els.length + x.length ≤ 1000000000)])
  | [.ptr 0 0, .d (.str x)], [.box T [.d .nilp, .d (.lst 0 [] true)]] => some (.tup [.d (.int .i64 x.length), .d .nili], [.box T [.ptr 0 0, .own 1 1], .arr u8T 1 (u8s x)], [Nat.beq T blT, decide (x.length ≤ 1000000000)])
  | _, _ => none
def wbE : Ent := fun a o => match a, o with
  | [.ptr 0 0, .d (.int .u8 c)], [.box T [.ptr 0 0, .own 1 1], .arr E 1 els] => some (.d .nili, [.box T [.ptr 0 0, .own 2 1], .gone, .arr E 1 (els ++ [.int .u8 c])], [Nat.beq T blT, Nat.beq E u8T, decide (els.length ≤ 1000000000)])
  | _, _ => none
def fourB (v : Int) : Bs := [UInt8.ofNat (IntKind.u8.wrap (v.fdiv 16777216)).toNat, UInt8.ofNat (IntKind.u8.wrap (v.fdiv 65536)).toNat, UInt8.ofNat (IntKind.u8.wrap (v.fdiv 256)).toNat, UInt8.ofNat (IntKind.u8.wrap v).toNat]
def eightB (v : Int) : Bs := fourB (IntKind.u32.wrap (v.fdiv 4294967296)) ++ fourB (IntKind.u32.wrap v)
def fourG : DV → Option (DV × List Bool)
  | .int .u32 v => some (.str (fourB v), [])
  | _ => none
def eightG : DV → Option (DV × List Bool)
  | .int .u64 v => some (.str (eightB v), [])
  | _ => none
def nm1 (s : Bs) (k : List Val) (i : Int) : ESt := { n := 41, m := 0, regs := T.mk [(3, .ptr 200 0), (16, .d (rD k)), (17, .d (.int .i64 ((k.map vD).length : Int))), (18, .d (.int .i64 i))], objs := T.mk [(200, .box blT [.ptr 200 0, .own 201 1]), (201, .arr u8T 1 (u8s s))] }
noncomputable def ts6 : List (Nat × Ent) := [(53, wsE), (86, wbE), (56, strE), (85, e1 eightG)]
theorem u8s_len (s : Bs) : (u8s s).length = s.length := by simp [u8s]
theorem u8s_app (a b : Bs) : u8s (a ++ b) = u8s a ++ u8s b := by simp [u8s]
theorem u8s_byte (s : Bs) : (u8s s).map DV.byte = s := by
  unfold u8s
  rw [List.map_map]
  conv => rhs; rw [← List.map_id s]
  apply List.map_congr_left
  intro b _
  simp only [Function.comp_apply, DV.byte, Int.toNat_natCast, UInt8.ofNat_toNat, id]
theorem u8s_isB (s : Bs) : (u8s s).all isB = true := by
  simp only [u8s, List.all_eq_true, List.mem_map]
  rintro x ⟨b, _, rfl⟩
  simp only [isB, decide_eq_true_eq]
  have := b.toNat_lt
  omega
theorem u8s_ne {s : Bs} (h : 1 ≤ s.length) : (!(u8s s).isEmpty) = true := by
  cases s with
  | nil => simp at h
  | cons a r => rfl
theorem ws_ent : EntOk Try.prog 53 wsE := by
  have ok := cfT_ok tb_ok
  intro a o r o' c hg hc
  unfold wsE at hg
  split at hg
  · rename_i x T E els
    simp only [Option.some.injEq, Prod.mk.injEq] at hg
    obtain ⟨rfl, rfl, rfl⟩ := hg
    have hT := nbE (hc (Nat.beq T blT) (by simp))
    have hE := nbE (hc (Nat.beq E u8T) (by simp))
    have h1 := of_decide_eq_true (hc (decide (els.length + x.length ≤ 1000000000)) (by simp))
    subst hT hE
    refine C_of_run (fn := Try.f53) (body := wsC) false (by kernel_rfl) (by kernel_rfl) (by kernel_rfl) ?_
    exact WK.fin ok 1000 0 [] [decide ((els.length + (u8s x).length) * 1 ≤ 2 ^ 38)] [] rfl (by kernel_rfl : runEnd (cfT tb) false _ 1000 0 _ _ (ini 19 [.ptr 0 0, .d (.str x)] [.box blT [.ptr 0 0, .own 1 1], .arr u8T 1 els]) = some (.tup [.d (.int .i64 x.length), .d .nili], [.box blT [.ptr 0 0, .own 2 1], .gone, .arr u8T 1 (els ++ u8s x)], _, _)) ⟨decide_eq_true (by rw [u8s_len]; omega), trivial⟩ trivial ⟨rfl, rfl⟩
  · rename_i x T
    simp only [Option.some.injEq, Prod.mk.injEq] at hg
    obtain ⟨rfl, rfl, rfl⟩ := hg
    have hT := nbE (hc (Nat.beq T blT) (by simp))
    have h1 := of_decide_eq_true (hc (decide (x.length ≤ 1000000000)) (by simp))
    subst hT
    refine C_of_run (fn := Try.f53) (body := wsC) false (by kernel_rfl) (by kernel_rfl) (by kernel_rfl) ?_
    exact WK.fin ok 1000 0 [] [decide ((0 + (u8s x).length) * 1 ≤ 2 ^ 38), true] [] rfl (by kernel_rfl : runEnd (cfT tb) false _ 1000 0 _ _ (ini 19 [.ptr 0 0, .d (.str x)] [.box blT [.d .nilp, .d (.lst 0 [] true)]]) = some (.tup [.d (.int .i64 x.length), .d .nili], [.box blT [.ptr 0 0, .own 1 1], .arr u8T 1 (u8s x)], _, _)) ⟨decide_eq_true (by rw [u8s_len]; omega), rfl, trivial⟩ trivial ⟨rfl, rfl⟩
  · cases hg
theorem wb_ent : EntOk Try.prog 86 wbE := by
  have ok := cfT_ok tb_ok
  intro a o r o' c hg hc
  unfold wbE at hg
  split at hg
  · rename_i x T E els
    simp only [Option.some.injEq, Prod.mk.injEq] at hg
    obtain ⟨rfl, rfl, rfl⟩ := hg
    have hT := nbE (hc (Nat.beq T blT) (by simp))
    have hE := nbE (hc (Nat.beq E u8T) (by simp))
    have h1 := of_decide_eq_true (hc (decide (els.length ≤ 1000000000)) (by simp))
    subst hT hE
    refine C_of_run (fn := Try.f86) (body := wbC) false (by kernel_rfl) (by kernel_rfl) (by kernel_rfl) ?_
    exact WK.fin ok 1000 0 [] [decide ((els.length + 1) * 1 ≤ 2 ^ 38)] [] rfl (by kernel_rfl : runEnd (cfT tb) false _ 1000 0 _ _ (ini 17 [.ptr 0 0, .d (.int .u8 x)] [.box blT [.ptr 0 0, .own 1 1], .arr u8T 1 els]) = some (.d .nili, [.box blT [.ptr 0 0, .own 2 1], .gone, .arr u8T 1 (els ++ [.int .u8 x])], _, _)) ⟨decide_eq_true (by omega), trivial⟩ trivial ⟨rfl, rfl⟩
  · cases hg
theorem four_ent : EntOk Try.prog 99 (e1 fourG) := by
  have ok := cfT_ok tb_ok
  refine e1_ok fun x y c hg hc => ?_
  unfold fourG at hg
  split at hg
  · rename_i v
    simp only [Option.some.injEq, Prod.mk.injEq] at hg
    obtain ⟨rfl, rfl⟩ := hg
    refine C_of_run (fn := Try.f99) (body := foC) true (by kernel_rfl) (by kernel_rfl) (by kernel_rfl) ?_
    exact WK.fin ok 1000 0 [] [true, true, true, true, true, true, true] [] rfl (by kernel_rfl : runEnd (cfT tb) true _ 1000 0 _ _ (ini 18 [.d (.int .u32 v)] []) = some (.d (.str (fourB v)), [], _, _)) ⟨rfl, rfl, rfl, rfl, rfl, rfl, rfl, trivial⟩ trivial ⟨rfl, rfl⟩
  · cases hg
theorem eight_ent : EntOk Try.prog 85 (e1 eightG) := by
  have ok := cfT_ok (l := [(99, e1 fourG)]) (.cons four_ent .nil)
  refine e1_ok fun x y c hg hc => ?_
  unfold eightG at hg
  split at hg
  · rename_i v
    simp only [Option.some.injEq, Prod.mk.injEq] at hg
    obtain ⟨rfl, rfl⟩ := hg
    refine C_of_run (fn := Try.f85) (body := eiC) true (by kernel_rfl) (by kernel_rfl) (by kernel_rfl) ?_
    exact WK.fin ok 1000 0 [] [true, true] [] rfl (by kernel_rfl : runEnd (cfT [(99, e1 fourG)]) true _ 1000 0 _ _ (ini 11 [.d (.int .u64 v)] []) = some (.d (.str (eightB v)), [], _, _)) ⟨rfl, rfl, trivial⟩ trivial ⟨rfl, rfl⟩
  · cases hg
theorem ts6_ok : EntsOk Try.prog ts6 := .cons ws_ent (.cons wb_ent (.cons str_ent (.cons eight_ent .nil)))

/-- a value's part of a name -/
def nmV (v : Val) : Bs := UInt8.ofNat v.k.toNat :: (eightB (IntKind.u64.wrap v.n) ++ eightB (IntKind.u64.wrap (Nat.cast (R := Int) v.s.length)) ++ v.s)
def nmT (t : Bs) : Bs := eightB (IntKind.u64.wrap (Nat.cast (R := Int) t.length)) ++ t
def nameB (x : Chg) : Bs := nmT x.t ++ x.k.flatMap nmV
theorem eightB_len (v : Int) : (eightB v).length = 8 := rfl
theorem nmV_len (v : Val) : (nmV v).length = 17 + v.s.length := by simp [nmV, eightB_len]; omega
theorem flat_len (l : List Val) (h : ∀ v ∈ l, v.s.length ≤ 1000) : (l.flatMap nmV).length ≤ 1017 * l.length := by
  induction l with
  | nil => simp
  | cons v r ih =>
    rw [List.flatMap_cons, List.length_append, nmV_len, List.length_cons]
    have := ih (fun z hz => h z (by simp [hz]))
    have := h v (by simp)
    omega
theorem mayC_spec {c : Chg} (h : mayC c = true) : c.t.length ≤ 32 ∧ c.k.length ≤ 16 ∧ (∀ v ∈ c.k, chk v = 0) ∧ (∀ v ∈ c.k, v.s.length ≤ 1000) := by
  simp only [mayC, Bool.and_eq_true, rowB, decide_eq_true_eq] at h
  have h2 := chkRow_zero (putRow_ok h.1.1.2).1
  exact ⟨h.1.1.1.1.1.2, h2.1, h2.2, fun v hv => (chk_zero (h2.2 v hv)).2.2.2⟩
theorem u8_of {z : Int} (h0 : 0 ≤ z) (h1 : z ≤ 255) : (u8s [UInt8.ofNat z.toNat]) = [.int .u8 z] := by
  simp only [u8s, List.map_cons, List.map_nil]
  rw [UInt8.toNat_ofNat_of_lt' (by simp only [UInt8.size]; omega), Int.toNat_of_nonneg h0]
set_option maxHeartbeats 2000000 in
theorem name_c (x : Chg) (hx : Chg.ok x) (hm : mayC x = true) : C Try.prog 71 [.d (chD x)] [] (fun r o => r = .d (.str (nameB x)) ∧ o = []) := by
  have ok := cfT_ok ts6_ok
  obtain ⟨m1, m2, m3, m4⟩ := mayC_spec hm
  refine C_of_run (fn := Try.f71) (body := naC) true (by kernel_rfl) (by kernel_rfl) (by kernel_rfl) ?_
  have hloop : WK Try.prog 0 (stackAt naC 0) (nm1 (nmT x.t) x.k 0).den (Ends (Try.f71.results.toList) (.d (.str (nameB x)))) := by
    have hwf := hx.1.1
    obtain ⟨k, hk⟩ : ∃ k, x.k = k := ⟨_, rfl⟩
    rw [hk] at m2 m3 m4 hwf ⊢
    have key := WK.rec' (P := Try.prog) (m := 0) (k := stackAt naC 0) (Q := Ends (Try.f71.results.toList) (.d (.str (nameB x)))) (fun (i : Nat) => nm1 (nmT x.t ++ (k.take i).flatMap nmV) k (i : Int)) (fun i => i ≤ k.length) (fun i => k.length - i) ?_ 0 (Nat.zero_le _)
    · simpa using key
    intro i hi ih
    obtain ⟨s, hs⟩ : ∃ s, nmT x.t ++ (k.take i).flatMap nmV = s := ⟨_, rfl⟩
    have hsl : 8 ≤ s.length ∧ s.length ≤ 20000 := by
      have := flat_len (k.take i) (fun v hv => m4 v (List.mem_of_mem_take hv))
      have h2 : (k.take i).length ≤ 16 := by rw [List.length_take]; omega
      have h3 : (nmT x.t).length = 8 + x.t.length := by simp only [nmT, List.length_append, eightB_len]
      rw [← hs, List.length_append]
      omega
    by_cases hlt : i < k.length
    · obtain ⟨w, hw⟩ : ∃ w, k[i] = w := ⟨_, rfl⟩
      have hwm : w ∈ k := by rw [← hw]; exact List.getElem_mem _
      have hws := m4 w hwm
      obtain ⟨k0, k1, _, _⟩ := hwf w hwm
      have hwl : (eightB (IntKind.u64.wrap w.n) ++ eightB (IntKind.u64.wrap (Nat.cast (R := Int) w.s.length))).length = 16 := rfl
      have hwl2 : (eightB (IntKind.u64.wrap w.n) ++ eightB (IntKind.u64.wrap (Nat.cast (R := Int) w.s.length)) ++ w.s).length = 16 + w.s.length := by rw [List.length_append, hwl]
      have hul := u8s_len s
      have hnx := ih (i + 1) hlt (by omega)
      have tx : k.take (i + 1) = k.take i ++ [w] := by rw [List.take_add_one, List.getElem?_eq_getElem hlt, hw]; rfl
      have e1 : nmT x.t ++ (k.take (i + 1)).flatMap nmV = s ++ nmV w := by
        rw [tx, List.flatMap_append, ← List.append_assoc, hs]; simp
      have e2 : u8s (s ++ nmV w) = u8s s ++ [.int .u8 w.k] ++ u8s (eightB (IntKind.u64.wrap w.n) ++ eightB (IntKind.u64.wrap (Nat.cast (R := Int) w.s.length)) ++ w.s) := by
        rw [u8s_app, ← u8_of k0 k1, List.append_assoc, ← u8s_app [_]]
        rfl
      rw [e1] at hnx
      have hnx2 : WK Try.prog 0 (stackAt naC 0) ({ n := 41, m := 0, regs := T.mk [(3, .ptr 200 0), (16, .d (rD k)), (17, .d (.int .i64 ((k.map vD).length : Int))), (18, .d (.int .i64 ((i + 1 : Nat) : Int)))], objs := T.mk [(200, .box blT [.ptr 200 0, .own 201 1]), (201, .arr u8T 1 (u8s s ++ [.int .u8 w.k] ++ u8s (eightB (IntKind.u64.wrap w.n) ++ eightB (IntKind.u64.wrap (Nat.cast (R := Int) w.s.length)) ++ w.s)))] } : ESt).den (Ends (Try.f71.results.toList) (.d (.str (nameB x)))) := by
        rw [← e2]; exact hnx
      rw [hs]
      clear hnx e1 e2 ih
      refine WK.segA ok 1000 0 [(19, RV.d (DV.bool true)), (20, RV.iptr (DV.agg [DV.int Go.IntKind.u8 w.1, DV.int Go.IntKind.i64 w.2, DV.str w.3]) 0), (39, RV.d (DV.int Go.IntKind.i64 (Nat.cast (R := Int) (i + 1))))] [] [3, 16, 17, 18] [decide (0 ≤ (Nat.cast (R := Int) i) ∧ (Nat.cast (R := Int) i) < (Nat.cast (R := Int) (List.map vD k).length)), true, true, decide ((u8s s).length ≤ 1000000000), true, decide ((eightB (Go.IntKind.u64.wrap w.n) ++ eightB (Go.IntKind.u64.wrap (Nat.cast (R := Int) (List.length w.s)))).length + List.length w.s ≤ 2 ^ 62), true, true, decide ((u8s s ++ [DV.int Go.IntKind.u8 w.k]).length + (eightB (Go.IntKind.u64.wrap w.n) ++ eightB (Go.IntKind.u64.wrap (Nat.cast (R := Int) (List.length w.s))) ++ w.s).length ≤ 1000000000)] [(RV.d (DV.bool (decide ((Nat.cast (R := Int) i) < (Nat.cast (R := Int) (List.map vD k).length)))), RV.d (DV.bool true)), (RV.iptr ((List.map vD k).getD (Nat.cast (R := Int) i).toNat DV.nilp) 0, RV.iptr (DV.agg [DV.int Go.IntKind.u8 w.1, DV.int Go.IntKind.i64 w.2, DV.str w.3]) 0), (RV.d (DV.int Go.IntKind.i64 (Go.IntKind.i64.wrap ((Nat.cast (R := Int) i) + 1))), RV.d (DV.int Go.IntKind.i64 (Nat.cast (R := Int) (i + 1))))] rfl (by kernel_rfl : runSegA (cfT ts6) 1000 0 _ _ _ _ (nm1 s k (i : Int)) = some (stackAt naC 0, { n := 41, m := 0, regs := T.mk [(3, .ptr 200 0), (16, .d (rD k)), (17, .d (.int .i64 ((k.map vD).length : Int))), (18, .d (.int .i64 ((i + 1 : Nat) : Int)))], objs := T.mk [(200, .box blT [.ptr 200 0, .own 201 1]), (201, .arr u8T 1 (u8s s ++ [.int .u8 w.k] ++ u8s (eightB (IntKind.u64.wrap w.n) ++ eightB (IntKind.u64.wrap (Nat.cast (R := Int) w.s.length)) ++ w.s)))] }, _, _)) (by refine ⟨?_, ?_, ?_, ?_, ?_, ?_, ?_, ?_, ?_, trivial⟩ <;> (first | rfl | exact bd_map hlt | (refine decide_eq_true ?_; simp only [List.length_append, List.length_singleton, eightB_len, hul]; omega))) (by refine ⟨?_, ?_, ?_, trivial⟩ <;> (first | (refine le_bool (decide_eq_true ?_); rw [List.length_map]; omega) | exact ov_val hlt hw | exact ov_succ (by omega))) ?_
      exact hnx2
    · have e : i = k.length := by omega
      have en : s = nameB x := by rw [← hs, List.take_of_length_le (by omega), ← hk]; rfl
      rw [hs, ← en]
      have hul := u8s_len s
      exact WK.fin ok 1000 0 [(19, RV.d (DV.bool false)), (40, RV.d (DV.str s))] [(u8s s).all isB, !(u8s s).isEmpty, decide ((u8s s).length ≤ 1099511627776)] [(RV.d (DV.bool (decide ((Nat.cast (R := Int) i) < (Nat.cast (R := Int) (List.map vD k).length)))), RV.d (DV.bool false)), (RV.d (DV.str (List.map DV.byte (u8s s))), RV.d (DV.str s))] rfl (by kernel_rfl : runEnd (cfT ts6) true _ 1000 0 _ _ (nm1 s k (i : Int)) = some (RV.d (DV.str s), [], _, _)) (by refine ⟨?_, ?_, ?_, trivial⟩ <;> (first | exact u8s_isB s | exact u8s_ne (by omega) | exact decide_eq_true (by omega))) (by refine ⟨?_, ?_, trivial⟩ <;> (first | (refine le_bool (decide_eq_false ?_); rw [List.length_map]; omega) | exact .of_eq (by rw [u8s_byte]))) ⟨rfl, rfl⟩
  obtain ⟨T, hT⟩ : ∃ T, nameB x = T := ⟨_, rfl⟩
  rw [hT] at hloop ⊢
  have hel : (eightB (IntKind.u64.wrap (Nat.cast (R := Int) x.t.length))).length = 8 := rfl
  refine WK.segA ok 1000 0 [] [] [3, 16, 17, 18] [decide (List.length (eightB (Go.IntKind.u64.wrap (Nat.cast (R := Int) (List.length x.t)))) + List.length x.t ≤ 2 ^ 62), true, decide ((eightB (Go.IntKind.u64.wrap (Nat.cast (R := Int) (List.length x.t))) ++ x.t).length ≤ 1000000000)] [] rfl (by kernel_rfl : runSegA (cfT ts6) 1000 0 _ _ _ _ (ini 41 [.d (chD x)] []) = some (stackAt naC 0, nm1 (eightB (IntKind.u64.wrap (Nat.cast (R := Int) x.t.length)) ++ x.t) x.k 0, _, _)) (by refine ⟨?_, ?_, ?_, trivial⟩ <;> (first | rfl | (refine decide_eq_true ?_; simp only [List.length_append, hel]; omega))) trivial ?_
  exact hloop

/-! ### No two have one name -/
theorem fourB_inj {a b : Int} (ha : 0 ≤ a ∧ a < 4294967296) (hb : 0 ≤ b ∧ b < 4294967296) (h : fourB a = fourB b) : a = b := by
  have key : ∀ {x y : Int}, UInt8.ofNat (IntKind.u8.wrap x).toNat = UInt8.ofNat (IntKind.u8.wrap y).toNat → x % 256 = y % 256 := by
    intro x y e
    have e2 := congrArg UInt8.toNat e
    rw [IntKind.wrap_u8, IntKind.wrap_u8] at e2
    rw [UInt8.toNat_ofNat_of_lt' (by simp only [UInt8.size]; omega), UInt8.toNat_ofNat_of_lt' (by simp only [UInt8.size]; omega)] at e2
    omega
  unfold fourB at h
  injection h with h1 h; injection h with h2 h; injection h with h3 h; injection h with h4 h
  have k1 := key h1; have k2 := key h2; have k3 := key h3; have k4 := key h4
  rw [Int.fdiv_eq_ediv_of_nonneg _ (by omega), Int.fdiv_eq_ediv_of_nonneg _ (by omega)] at k1 k2 k3
  omega
theorem eightB_inj {a b : Int} (ha : 0 ≤ a ∧ a < 18446744073709551616) (hb : 0 ≤ b ∧ b < 18446744073709551616) (h : eightB a = eightB b) : a = b := by
  unfold eightB at h
  obtain ⟨h1, h2⟩ := List.append_inj h rfl
  have k1 := fourB_inj (by rw [IntKind.wrap_u32]; omega) (by rw [IntKind.wrap_u32]; omega) h1
  have k2 := fourB_inj (by rw [IntKind.wrap_u32]; omega) (by rw [IntKind.wrap_u32]; omega) h2
  rw [IntKind.wrap_u32, IntKind.wrap_u32, Int.fdiv_eq_ediv_of_nonneg _ (by omega), Int.fdiv_eq_ediv_of_nonneg _ (by omega)] at k1
  rw [IntKind.wrap_u32, IntKind.wrap_u32] at k2
  omega
theorem u64_rng (z : Int) : 0 ≤ IntKind.u64.wrap z ∧ IntKind.u64.wrap z < 18446744073709551616 := by rw [IntKind.wrap_u64]; omega
theorem eight_len_inj {a b : Nat} (ha : a ≤ 1000000) (hb : b ≤ 1000000) (h : eightB (IntKind.u64.wrap (Nat.cast (R := Int) a)) = eightB (IntKind.u64.wrap (Nat.cast (R := Int) b))) : a = b := by
  have := eightB_inj (u64_rng _) (u64_rng _) h
  rw [IntKind.wrap_u64, IntKind.wrap_u64] at this
  omega
theorem nmV_inj {v w : Val} {r q : Bs} (hv : v.wf) (hw : w.wf) (lv : v.s.length ≤ 1000) (lw : w.s.length ≤ 1000) (h : nmV v ++ r = nmV w ++ q) : v = w ∧ r = q := by
  unfold nmV at h
  rw [List.cons_append, List.cons_append] at h
  injection h with h1 h
  rw [List.append_assoc, List.append_assoc, List.append_assoc, List.append_assoc] at h
  obtain ⟨h2, h⟩ := List.append_inj h rfl
  obtain ⟨h3, h⟩ := List.append_inj h rfl
  have e3 := eight_len_inj (by omega) (by omega) h3
  obtain ⟨h4, h5⟩ := List.append_inj h e3
  have e2 := eightB_inj (u64_rng _) (u64_rng _) h2
  rw [IntKind.wrap_u64, IntKind.wrap_u64] at e2
  obtain ⟨a1, a2, a3, a4⟩ := hv
  obtain ⟨b1, b2, b3, b4⟩ := hw
  have e1 := congrArg UInt8.toNat h1
  rw [UInt8.toNat_ofNat_of_lt' (by simp only [UInt8.size]; omega), UInt8.toNat_ofNat_of_lt' (by simp only [UInt8.size]; omega)] at e1
  refine ⟨?_, h5⟩
  obtain ⟨vk, vn, vs⟩ := v
  obtain ⟨wk, wn, ws⟩ := w
  simp only at *
  have f1 : vk = wk := by omega
  have f2 : vn = wn := by omega
  subst f1 f2 h4; rfl
theorem flat_inj : ∀ {a b : List Val}, (∀ v ∈ a, v.wf) → (∀ v ∈ b, v.wf) → (∀ v ∈ a, v.s.length ≤ 1000) → (∀ v ∈ b, v.s.length ≤ 1000) → a.flatMap nmV = b.flatMap nmV → a = b
  | [], [], _, _, _, _, _ => rfl
  | [], w :: q, _, _, _, _, h => by simp [nmV] at h
  | v :: r, [], _, _, _, _, h => by simp [nmV] at h
  | v :: r, w :: q, h1, h2, h3, h4, h => by
    rw [List.flatMap_cons, List.flatMap_cons] at h
    obtain ⟨e1, e2⟩ := nmV_inj (h1 v (by simp)) (h2 w (by simp)) (h3 v (by simp)) (h4 w (by simp)) h
    rw [e1, flat_inj (a := r) (b := q) (fun z hz => h1 z (by simp [hz])) (fun z hz => h2 z (by simp [hz])) (fun z hz => h3 z (by simp [hz])) (fun z hz => h4 z (by simp [hz])) e2]
theorem name_iff {x y : Chg} (hx : Chg.ok x) (hy : Chg.ok y) (mx : mayC x = true) (my : mayC y = true) : nameB x = nameB y ↔ x.t = y.t ∧ x.k = y.k := by
  constructor
  · intro h
    obtain ⟨a1, a2, a3, a4⟩ := mayC_spec mx
    obtain ⟨b1, b2, b3, b4⟩ := mayC_spec my
    unfold nameB nmT at h
    rw [List.append_assoc, List.append_assoc] at h
    obtain ⟨h1, h⟩ := List.append_inj h rfl
    have e1 := eight_len_inj (by omega) (by omega) h1
    obtain ⟨h2, h3⟩ := List.append_inj h e1
    exact ⟨h2, flat_inj hx.1.1 hy.1.1 a4 b4 h3⟩
  · rintro ⟨h1, h2⟩
    unfold nameB; rw [h1, h2]
def nameG : DV → Option (DV × List Bool) := fun x => some (.str (nameB (toChg x)), [isC x, mayC (toChg x)])
theorem name_ent : EntOk Try.prog 71 (e1 nameG) := by
  refine e1_ok fun x y c hg hc => ?_
  simp only [nameG, Option.some.injEq, Prod.mk.injEq] at hg
  obtain ⟨rfl, rfl⟩ := hg
  obtain ⟨a, rfl, wa⟩ := isC_spec (hc (isC x) (by simp))
  have hm := hc (mayC (toChg (chD a))) (by simp)
  rw [toChg_chD] at hm ⊢
  exact name_c a wa hm
end Go.Proofs.Ytljfolepmkcjlaa

/-
  Changes of whatever size, as a law is handed them.
-/
namespace Go.Proofs.Ytljfolepmkcjlaa
open Go.RowKit Plain Am IntWalk
set_option maxRecDepth 100000

def isRw : DV → Bool
  | .lst sz els full => els.all isVal && decide (sz = 3) && !full
  | _ => false
def isCw : DV → Bool
  | .agg [.str _, a, b, c] => isRw a && isRw b && isRw c
  | _ => false
def isLw : DV → Bool
  | .lst sz els full => decide (els.length ≤ 9223372036854775807) && els.all isCw && decide (sz = 4) && !full
  | _ => false
theorem isRw_spec {x : DV} (h : isRw x = true) : ∃ l, x = rD l ∧ ∀ v ∈ l, v.wf := by
  unfold isRw at h
  split at h
  · rename_i sz els full
    simp only [Bool.and_eq_true, decide_eq_true_eq, Bool.not_eq_true', List.all_eq_true] at h
    obtain ⟨⟨h1, rfl⟩, rfl⟩ := h
    obtain ⟨g1, g2⟩ := map_toRow h1
    exact ⟨toRow els, by rw [rD, ← g1], g2⟩
  · cases h
theorem isCw_spec {x : DV} (h : isCw x = true) : ∃ c, x = chD c ∧ c.wf := by
  unfold isCw at h
  split at h
  · rename_i t a b c
    simp only [Bool.and_eq_true] at h
    obtain ⟨⟨h1, h2⟩, h3⟩ := h
    obtain ⟨k, rfl, w1⟩ := isRw_spec h1
    obtain ⟨o, rfl, w2⟩ := isRw_spec h2
    obtain ⟨n, rfl, w3⟩ := isRw_spec h3
    exact ⟨⟨t, k, o, n⟩, rfl, w1, w2, w3⟩
  · cases h
theorem isLw_spec {x : DV} (h : isLw x = true) : ∃ l, x = chL l ∧ l.length ≤ 9223372036854775807 ∧ ∀ c ∈ l, c.wf := by
  unfold isLw at h
  split at h
  · rename_i sz els full
    simp only [Bool.and_eq_true, decide_eq_true_eq, Bool.not_eq_true', List.all_eq_true] at h
    obtain ⟨⟨⟨h1, h2⟩, rfl⟩, rfl⟩ := h
    have : ∃ l : List Chg, els = l.map chD ∧ ∀ c ∈ l, c.wf := by
      clear h1
      induction els with
      | nil => exact ⟨[], rfl, by simp⟩
      | cons x r ih =>
        obtain ⟨l, rfl, hl⟩ := ih (fun y hy => h2 y (by simp [hy]))
        obtain ⟨c, rfl, hc⟩ := isCw_spec (h2 x (by simp))
        exact ⟨c :: l, rfl, fun d hd => by
          rcases List.mem_cons.1 hd with rfl | hd
          · exact hc
          · exact hl d hd⟩
    obtain ⟨l, rfl, hl⟩ := this
    exact ⟨l, rfl, by simpa using h1, hl⟩
  · cases h
theorem isRw_rD {l : List Val} (hw : ∀ v ∈ l, v.wf) : isRw (rD l) = true := by
  simp only [isRw, Bool.and_eq_true, List.all_eq_true, List.mem_map]
  refine ⟨⟨?_, rfl⟩, rfl⟩
  rintro x ⟨v, hv, rfl⟩
  exact (wfB_iff v).2 (hw v hv)
theorem isLw_chL {l : List Chg} (hl : l.length ≤ 9223372036854775807) (hw : ∀ c ∈ l, c.wf) : isLw (chL l) = true := by
  simp only [isLw, chL, List.length_map, Bool.and_eq_true, decide_eq_true_eq, List.all_eq_true, List.mem_map]
  refine ⟨⟨⟨hl, ?_⟩, trivial⟩, rfl⟩
  rintro x ⟨c, hc, rfl⟩
  obtain ⟨w1, w2, w3⟩ := hw c hc
  simp only [chD, isCw, isRw_rD w1, isRw_rD w2, isRw_rD w3]; rfl
theorem nil_leM : RVle (.d (.lst 0 [] true)) (.d (.lst 4 [] false)) := by
  intro κ φ O h v r
  cases r with
  | d hr =>
    cases hr with
    | lst0 hf => exact .d (.lst0 (fun h => by cases h))
    | lst _ _ hf _ _ _ _ => have := (hf rfl).2; omega
theorem okL_nil : okL [] := ⟨by decide, by simp⟩
end Go.Proofs.Ytljfolepmkcjlaa

/-
  change.merge, run.
-/
namespace Go.Proofs.Ytljfolepmkcjlaa
open Go.RowKit Plain Am IntWalk
set_option maxRecDepth 100000
set_option linter.unusedVariables false
set_option linter.unusedSimpArgs false

noncomputable abbrev mgC : Code := bodyOf Try.f52
def mg1 (M : List (DV × DV)) (all l : List DV) (i : Int) : ESt := { n := 57, m := 0, regs := T.mk [(4, .map 200), (5, .own 201 4), (12, .d (.lst 4 l false)), (13, .d (.int .i64 (l.length : Int))), (14, .d (.int .i64 i))], objs := T.mk [(200, .map M), (201, .arr chT 4 all)] }
noncomputable def ts7 : List (Nat × Ent) := [(71, e1 nameG), (60, e2 eqG), (72, delE), (74, srtE)]
/-- the map of the names' places -/
def mapFrom : Nat → List Chg → List (DV × DV)
  | _, [] => []
  | k, x :: r => (.str (nameB x), .int .i64 k) :: mapFrom (k + 1) r
theorem ts7_ok : EntsOk Try.prog ts7 := .cons name_ent (.cons (eqG_ent same_c) (.cons del_ent (.cons srt_ent .nil)))
theorem und9 : (cfB ts7).E.und 9 = some .string := by kernel_rfl
theorem mapFrom_keys : ∀ (k : Nat) (A : List Chg), ((mapFrom k A).all fun p => keyOk ((cfB ts7).E.und 9) p.fst) = true
  | _, [] => rfl
  | k, x :: r => by
    simp only [mapFrom, List.all_cons, mapFrom_keys (k + 1) r, Bool.and_true]
    rw [und9]; rfl
/-- names tell keys, for x among A -/
def nameOk (A : List Chg) (x : Chg) : Prop := ∀ y ∈ A, (nameB x == nameB y) = keyB y x
theorem mget_none {x : Chg} : ∀ {A : List Chg} (k : Nat), nameOk A x → A.findIdx? (fun y => keyB y x) = none → mhas (.str (nameB x)) (mapFrom k A) = false ∧ ∀ v, mput (.str (nameB x)) v (mapFrom k A) = mapFrom k A ++ [(.str (nameB x), v)]
  | [], k, _, _ => ⟨rfl, fun _ => rfl⟩
  | y :: r, k, hn, h => by
    rw [List.findIdx?_cons] at h
    have hy := hn y (by simp)
    cases hk : keyB y x with
    | true => rw [hk] at h; simp at h
    | false =>
      rw [hk] at h hy
      have h2 : r.findIdx? (fun y => keyB y x) = none := by simpa using h
      obtain ⟨i1, i2⟩ := mget_none (k + 1) (fun z hz => hn z (by simp [hz])) h2
      have he : keq (.str (nameB x)) (.str (nameB y)) = false := hy
      refine ⟨?_, fun v => ?_⟩
      · show (keq (.str (nameB x)) (.str (nameB y)) || mhas _ (mapFrom (k + 1) r)) = false
        rw [he, i1]; rfl
      · show (bif keq (.str (nameB x)) (.str (nameB y)) then _ else _) = _
        rw [he, cond_false, i2 v]; rfl
theorem mget_some {x : Chg} : ∀ {A : List Chg} (k i : Nat), nameOk A x → A.findIdx? (fun y => keyB y x) = some i → mhas (.str (nameB x)) (mapFrom k A) = true ∧ ∀ z, mget (.str (nameB x)) z (mapFrom k A) = .int .i64 ((k + i : Nat) : Int)
  | [], k, i, _, h => by simp at h
  | y :: r, k, i, hn, h => by
    rw [List.findIdx?_cons] at h
    have hy := hn y (by simp)
    cases hk : keyB y x with
    | true =>
      rw [hk] at h hy
      simp only [if_true, Option.some.injEq] at h
      subst h
      have he : keq (.str (nameB x)) (.str (nameB y)) = true := hy
      refine ⟨?_, fun z => ?_⟩
      · show (keq (.str (nameB x)) (.str (nameB y)) || mhas _ (mapFrom (k + 1) r)) = true
        rw [he]; rfl
      · show (bif keq (.str (nameB x)) (.str (nameB y)) then _ else _) = _
        rw [he]; rfl
    | false =>
      rw [hk] at h hy
      have he : keq (.str (nameB x)) (.str (nameB y)) = false := hy
      cases h2 : r.findIdx? (fun y => keyB y x) with
      | none => rw [h2] at h; simp at h
      | some j =>
        rw [h2] at h
        simp only [Option.map_some] at h
        have hj : j + 1 = i := by simpa using h
        obtain ⟨i1, i2⟩ := mget_some (k + 1) j (fun z hz => hn z (by simp [hz])) h2
        refine ⟨?_, fun z => ?_⟩
        · show (keq (.str (nameB x)) (.str (nameB y)) || mhas _ (mapFrom (k + 1) r)) = true
          rw [i1, Bool.or_true]
        · show (bif keq (.str (nameB x)) (.str (nameB y)) then _ else _) = _
          rw [he, cond_false, i2 z, ← hj]
          congr 2; omega
theorem mapFrom_snoc (x : Chg) : ∀ (k : Nat) (A : List Chg), mapFrom k (A ++ [x]) = mapFrom k A ++ [(.str (nameB x), .int .i64 ((k + A.length : Nat) : Int))]
  | k, [] => by simp [mapFrom]
  | k, y :: r => by
    simp only [List.cons_append, mapFrom, mapFrom_snoc x (k + 1) r, List.length_cons]
    rw [show k + 1 + r.length = k + (r.length + 1) by omega]
theorem mapFrom_set {y z : Chg} (ht : z.t = y.t) (hk : z.k = y.k) : ∀ (k i : Nat) (A : List Chg), A[i]? = some y → mapFrom k (A.set i z) = mapFrom k A
  | k, i, [], h => by simp at h
  | k, 0, w :: r, h => by
    simp only [List.getElem?_cons_zero, Option.some.injEq] at h
    subst h
    simp only [List.set_cons_zero, mapFrom, nameB, ht, hk]
  | k, i + 1, w :: r, h => by
    rw [List.getElem?_cons_succ] at h
    simp only [List.set_cons_succ, mapFrom, mapFrom_set ht hk (k + 1) i r h]
/-- of the key of one that may be -/
def keyed (y : Chg) : Prop := ∃ z : Chg, Chg.ok z ∧ mayC z = true ∧ y.t = z.t ∧ y.k = z.k
theorem keyed_name {x y : Chg} (hx : Chg.ok x) (mx : mayC x = true) (hy : keyed y) : (nameB x == nameB y) = keyB y x := by
  obtain ⟨z, z1, z2, z3, z4⟩ := hy
  have e : nameB y = nameB z := by unfold nameB; rw [z3, z4]
  rw [e]
  have := name_iff hx z1 mx z2
  rw [Bool.eq_iff_iff, beq_iff_eq, this, keyB_iff, z3, z4]
  exact ⟨fun ⟨a, b⟩ => ⟨a.symm, b.symm⟩, fun ⟨a, b⟩ => ⟨a.symm, b.symm⟩⟩
theorem keyed_row {y : Chg} (hy : keyed y) : rowOk y.k := by
  obtain ⟨z, z1, z2, z3, z4⟩ := hy
  rw [z4]; exact mayC_key z2 z1.1
theorem ok_set {y x : Chg} (hy : Chg.ok y) (hx : Chg.ok x) : Chg.ok ⟨y.t, y.k, y.o, x.n⟩ := ⟨⟨hy.1.1, hy.1.2.1, hx.1.2.2⟩, hy.2.1, hy.2.2.1, hx.2.2.2⟩
theorem ov_nm {x : Chg} : RVle (.d (.str (nameB (toChg (chD x))))) (.d (.str (nameB x))) := .of_eq (by rw [toChg_chD])
theorem ov_fld {l : List Chg} {i : Nat} {x : Chg} (h : l[i]? = some x) : RVle (.d (((l.map chD).getD (Nat.cast (R := Int) i).toNat .nilp).cells.getD 3 .nilp)) (.d (rD x.n)) := .of_eq (by rw [Int.toNat_natCast, getD_of h]; rfl)
theorem set_fld {l : List Chg} {i : Nat} {x y : Chg} (h : l[i]? = some y) : (l.map chD).set i (.agg (splice (((l.map chD).getD i .nilp).cells) 3 [rD x.n])) = (l.set i ⟨y.t, y.k, y.o, x.n⟩).map chD := by
  rw [getD_of h, ← map_set']; rfl
abbrev EndsMg (L : List Chg) : SSt → Prop := Ends (Try.f52.results.toList) (.tup [.d (chL (mrgC L).1), .d (.int .i64 (mrgC L).2)])
theorem nokey_snoc {A : List Chg} {x : Chg} (h : nokey A) (hx : A.findIdx? (fun y => keyB y x) = none) : nokey (A ++ [x]) := by
  refine nokey_append.2 ⟨h, ⟨by simp, trivial⟩, fun y hy z hz => ?_⟩
  rw [List.mem_singleton.1 hz]
  rw [List.findIdx?_eq_none_iff] at hx
  exact hx y hy
theorem nokey_set {y z : Chg} (ht : z.t = y.t) (hk : z.k = y.k) : ∀ {A : List Chg} {i : Nat}, nokey A → A[i]? = some y → nokey (A.set i z)
  | [], i, _, h => by simp at h
  | w :: r, 0, hn, h => by
    simp only [List.getElem?_cons_zero, Option.some.injEq] at h
    subst h
    refine ⟨fun q hq => ?_, hn.2⟩
    have := hn.1 q hq
    simp only [keyB, ht, hk] at this ⊢; exact this
  | w :: r, i + 1, hn, h => by
    rw [List.getElem?_cons_succ] at h
    refine ⟨fun q hq => ?_, nokey_set ht hk hn.2 h⟩
    rcases List.mem_or_eq_of_mem_set hq with hq | rfl
    · exact hn.1 q hq
    · have := hn.1 y (List.mem_of_getElem? h)
      simp only [keyB, ht, hk] at this ⊢; exact this
set_option maxHeartbeats 4000000 in
theorem merge_c (L : List Chg) (hok : okL L) (hm : ∀ x ∈ L, mayC x = true) (hl6 : L.length ≤ 10000) : C Try.prog 52 [.d (chL L)] [] (fun r o => r = .tup [.d (chL (mrgC L).1), .d (.int .i64 (mrgC L).2)] ∧ o = []) := by
  have ok := cfB_ok ts7_ok
  refine C_of_run (fn := Try.f52) (body := mgC) true (by kernel_rfl) (by kernel_rfl) (by kernel_rfl) ?_
  have hloop : WK Try.prog 0 (stackAt mgC 0) (mg1 [] [] (L.map chD) 0).den (EndsMg L) := by
    have key := WK.rec' (P := Try.prog) (m := 0) (k := stackAt mgC 0) (Q := EndsMg L) (fun (q : Nat × List Chg) => mg1 (mapFrom 0 q.2) (q.2.map chD) (L.map chD) (q.1 : Int)) (fun q => q.1 ≤ L.length ∧ q.2.length ≤ q.1 ∧ mFold q.2 (L.drop q.1) = mFold [] L ∧ nokey q.2 ∧ (∀ y ∈ q.2, Chg.ok y ∧ keyed y)) (fun q => L.length - q.1) ?_ (0, []) ⟨Nat.zero_le _, Nat.le_refl _, rfl, trivial, by simp⟩
    · exact key
    rintro ⟨i, A⟩ ⟨hi, hA6, hfold, hnk, hA⟩ ih
    simp only at hi hA6 hfold hnk hA ih ⊢
    have hkeys := mapFrom_keys 0 A
    by_cases hlt : i < L.length
    · obtain ⟨x, hx⟩ : ∃ x, L[i] = x := ⟨_, rfl⟩
      have hxm : x ∈ L := by rw [← hx]; exact List.getElem_mem _
      have hxo := hok.2 x hxm
      have mx := hm x hxm
      have hname : nameOk A x := fun y hy => keyed_name hxo mx (hA y hy).2
      have ex : L.drop i = x :: L.drop (i + 1) := by rw [List.drop_eq_getElem_cons hlt, hx]
      rw [ex] at hfold
      have hmx : mayC (toChg (chD x)) = true := by rw [toChg_chD]; exact mx
      cases hf : A.findIdx? (fun y => keyB y x) with
      | none =>
        obtain ⟨g1, g2⟩ := mget_none 0 hname hf
        have hst : mStep A x = some (A ++ [x]) := by unfold mStep; rw [hf]
        simp only [mFold, hst] at hfold
        have hw := ih (i + 1, A ++ [x]) ⟨hlt, by simp only [List.length_append, List.length_singleton]; omega, hfold, nokey_snoc hnk hf, fun y hy => by
          rcases List.mem_append.1 hy with hy | hy
          · exact hA y hy
          · rw [List.mem_singleton.1 hy]; exact ⟨hxo, x, hxo, mx, rfl, rfl⟩⟩ (by simp only; omega)
        simp only [mapFrom_snoc, Nat.zero_add, List.map_append, List.map_cons, List.map_nil] at hw
        rw [← g2] at hw
        have hal : (A.map chD).length = A.length := List.length_map ..
        rw [← hal] at hw
        obtain ⟨all, hall⟩ : ∃ all, A.map chD = all := ⟨_, rfl⟩
        obtain ⟨M, hM⟩ : ∃ M, mapFrom 0 A = M := ⟨_, rfl⟩
        obtain ⟨nm, hnm⟩ : ∃ nm, nameB x = nm := ⟨_, rfl⟩
        have hon : RVle (.d (.str (nameB (toChg (chD x))))) (.d (.str nm)) := by rw [← hnm]; exact ov_nm
        have hb1 := bd_map (f := chD) hlt
        have hb2 := ov_chg hlt hx
        have hb3 : decide ((Nat.cast (R := Int) i) < (Nat.cast (R := Int) (L.map chD).length)) = true := decide_eq_true (by rw [List.length_map]; omega)
        obtain ⟨l, hl⟩ : ∃ l, L.map chD = l := ⟨_, rfl⟩
        rw [hall] at hw hal ⊢
        rw [hM] at hw g1 hkeys ⊢
        rw [hnm] at hw g1
        rw [hl] at hw hb1 hb2 hb3 ⊢
        clear ih g2 hname hfold hA
        refine WK.segA ok 1000 0 [(15, RV.d (DV.bool true)), (16, RV.iptr (DV.agg [DV.str x.1, DV.lst 3 (List.map vD x.2) false, DV.lst 3 (List.map vD x.3) false, DV.lst 3 (List.map vD x.4) false]) 0), (19, RV.d (DV.str nm)), (25, RV.d (DV.bool false)), (51, RV.d (DV.int Go.IntKind.i64 (Nat.cast (R := Int) (i + 1))))] [] [4, 5, 12, 13, 14] [decide (0 ≤ (Nat.cast (R := Int) i) ∧ (Nat.cast (R := Int) i) < (Nat.cast (R := Int) l.length)), isC (DV.agg [DV.str x.1, DV.lst 3 (List.map vD x.2) false, DV.lst 3 (List.map vD x.3) false, DV.lst 3 (List.map vD x.4) false]), Plain.mayC { t := x.1, k := List.map toVal (List.map vD x.k), o := List.map toVal (List.map vD x.o), n := List.map toVal (List.map vD x.n) }, M.all fun p => keyOk ((cfB ts7).E.und (9)) p.fst, M.all fun p => keyOk ((cfB ts7).E.und (9)) p.fst, decide ((all.length + [DV.agg [DV.str x.t, rD x.k, rD x.o, rD x.n]].length) * 88 ≤ 2 ^ 38)] [(RV.d (DV.bool (decide ((Nat.cast (R := Int) i) < (Nat.cast (R := Int) l.length)))), RV.d (DV.bool true)), (RV.iptr (l.getD (Nat.cast (R := Int) i).toNat DV.nilp) 0, RV.iptr (DV.agg [DV.str x.1, DV.lst 3 (List.map vD x.2) false, DV.lst 3 (List.map vD x.3) false, DV.lst 3 (List.map vD x.4) false]) 0), (RV.d (DV.str (nameB { t := x.1, k := List.map toVal (List.map vD x.k), o := List.map toVal (List.map vD x.o), n := List.map toVal (List.map vD x.n) })), RV.d (DV.str nm)), (RV.d (DV.bool (mhas (DV.str nm) M)), RV.d (DV.bool false)), (RV.d (DV.int Go.IntKind.i64 (Go.IntKind.i64.wrap ((Nat.cast (R := Int) i) + 1))), RV.d (DV.int Go.IntKind.i64 (Nat.cast (R := Int) (i + 1))))] rfl (by kernel_rfl : runSegA (cfB ts7) 1000 0 _ _ _ _ (mg1 M all l (i : Int)) = some (stackAt mgC 0, mg1 (mput (.str nm) (.int .i64 (all.length : Int)) M) (all ++ [chD x]) l ((i + 1 : Nat) : Int), _, _)) (by refine ⟨?_, ?_, ?_, ?_, ?_, ?_, trivial⟩ <;> (first | exact hb1 | exact isC_chD hxo | exact hmx | exact hkeys | (refine decide_eq_true ?_; simp only [List.length_singleton]; omega))) (by refine ⟨?_, ?_, ?_, ?_, ?_, trivial⟩ <;> (first | exact le_bool hb3 | exact hb2 | exact hon | exact le_bool g1 | exact ov_succ (by omega))) ?_
        exact hw
      | some j =>
        obtain ⟨g1, g2⟩ := mget_some 0 j hname hf
        obtain ⟨hjl, hjk, _⟩ := List.findIdx?_eq_some_iff_getElem.1 hf
        obtain ⟨y, hy⟩ : ∃ y, A[j] = y := ⟨_, rfl⟩
        have gy : A[j]? = some y := by rw [List.getElem?_eq_getElem hjl, hy]
        obtain ⟨hyo, hyk⟩ := hA y (List.mem_of_getElem? gy)
        have hg2 : RVle (.d (mget (.str (nameB x)) (.int .i64 0) (mapFrom 0 A))) (.d (.int .i64 (j : Int))) := .of_eq (by rw [g2, Nat.zero_add])
        have by1 := bd_in gy
        have by2 := bd_in2 gy
        have by3 := bd_ble gy
        have by4 := ov_fld gy
        have hb1 := bd_map (f := chD) hlt
        have hb2 := ov_chg hlt hx
        have hb3 : decide ((Nat.cast (R := Int) i) < (Nat.cast (R := Int) (L.map chD).length)) = true := decide_eq_true (by rw [List.length_map]; omega)
        by_cases hyx : y.n = x.o
        · have hst : mStep A x = some (A.set j ⟨y.t, y.k, y.o, x.n⟩) := by unfold mStep; rw [hf]; simp only [gy]; rw [if_pos hyx]
          simp only [mFold, hst] at hfold
          have hw := ih (i + 1, A.set j ⟨y.t, y.k, y.o, x.n⟩) ⟨hlt, by simp only [List.length_set]; omega, hfold, nokey_set (y := y) (z := ⟨y.t, y.k, y.o, x.n⟩) rfl rfl hnk gy, fun z hz => by
            rcases List.mem_or_eq_of_mem_set hz with hz | rfl
            · exact hA z hz
            · obtain ⟨q, q1, q2, q3, q4⟩ := hyk
              exact ⟨ok_set hyo hxo, q, q1, q2, q3, q4⟩⟩ (by simp only; omega)
          simp only [mapFrom_set (y := y) (z := ⟨y.t, y.k, y.o, x.n⟩) rfl rfl 0 j A gy] at hw
          rw [← set_fld gy] at hw
          have hsame : RVle (.d (.bool (!decide (unR (rD y.n) = unR (rD x.o))))) (.d (.bool false)) := le_bool (by rw [unR_rD, unR_rD, decide_eq_true hyx]; rfl)
          obtain ⟨all, hall⟩ : ∃ all, A.map chD = all := ⟨_, rfl⟩
          obtain ⟨M, hM⟩ : ∃ M, mapFrom 0 A = M := ⟨_, rfl⟩
          obtain ⟨nm, hnm⟩ : ∃ nm, nameB x = nm := ⟨_, rfl⟩
          have hon : RVle (.d (.str (nameB (toChg (chD x))))) (.d (.str nm)) := by rw [← hnm]; exact ov_nm
          obtain ⟨l, hl⟩ : ∃ l, L.map chD = l := ⟨_, rfl⟩
          rw [hall] at hw by1 by2 by3 by4 ⊢
          rw [hM] at hw g1 hg2 hkeys ⊢
          rw [hnm] at g1 hg2
          rw [hl] at hw hb1 hb2 hb3 ⊢
          clear ih hname hfold hA
          refine WK.segA ok 1000 0 [(15, RV.d (DV.bool true)), (16, RV.iptr (DV.agg [DV.str x.1, DV.lst 3 (List.map vD x.2) false, DV.lst 3 (List.map vD x.3) false, DV.lst 3 (List.map vD x.4) false]) 0), (19, RV.d (DV.str nm)), (25, RV.d (DV.bool true)), (24, RV.d (DV.int Go.IntKind.i64 (Nat.cast (R := Int) j))), (40, RV.d (DV.lst 3 (List.map vD y.4) false)), (44, RV.d (DV.bool false)), (51, RV.d (DV.int Go.IntKind.i64 (Nat.cast (R := Int) (i + 1))))] [] [4, 5, 12, 13, 14] [decide (0 ≤ (Nat.cast (R := Int) i) ∧ (Nat.cast (R := Int) i) < (Nat.cast (R := Int) l.length)), isC (DV.agg [DV.str x.1, DV.lst 3 (List.map vD x.2) false, DV.lst 3 (List.map vD x.3) false, DV.lst 3 (List.map vD x.4) false]), Plain.mayC { t := x.1, k := List.map toVal (List.map vD x.k), o := List.map toVal (List.map vD x.o), n := List.map toVal (List.map vD x.n) }, M.all fun p => keyOk ((cfB ts7).E.und (9)) p.fst, decide (0 ≤ (Nat.cast (R := Int) j) ∧ (Nat.cast (R := Int) j) < (Nat.cast (R := Int) all.length)), decide ((Nat.cast (R := Int) j).toNat < all.length), Nat.ble 4 (all.getD (Nat.cast (R := Int) j).toNat DV.nilp).cells.length, decide ((List.map vD y.n).length ≤ 65536) && (List.map vD y.4).all isVal && true && true, decide ((List.map vD x.o).length ≤ 65536) && (List.map vD x.3).all isVal && true && true, decide (0 ≤ (Nat.cast (R := Int) j) ∧ (Nat.cast (R := Int) j) < (Nat.cast (R := Int) all.length)), decide ((Nat.cast (R := Int) j).toNat < all.length), Nat.ble 4 (all.getD (Nat.cast (R := Int) j).toNat DV.nilp).cells.length] [(RV.d (DV.bool (decide ((Nat.cast (R := Int) i) < (Nat.cast (R := Int) l.length)))), RV.d (DV.bool true)), (RV.iptr (l.getD (Nat.cast (R := Int) i).toNat DV.nilp) 0, RV.iptr (DV.agg [DV.str x.1, DV.lst 3 (List.map vD x.2) false, DV.lst 3 (List.map vD x.3) false, DV.lst 3 (List.map vD x.4) false]) 0), (RV.d (DV.str (nameB { t := x.1, k := List.map toVal (List.map vD x.k), o := List.map toVal (List.map vD x.o), n := List.map toVal (List.map vD x.n) })), RV.d (DV.str nm)), (RV.d (mget (DV.str nm) (DV.int Go.IntKind.i64 (0)) M), RV.d (DV.int Go.IntKind.i64 (Nat.cast (R := Int) j))), (RV.d (DV.bool (mhas (DV.str nm) M)), RV.d (DV.bool true)), (RV.d ((all.getD (Nat.cast (R := Int) j).toNat DV.nilp).cells.getD 3 DV.nilp), RV.d (DV.lst 3 (List.map vD y.4) false)), (RV.d (DV.bool !decide (unR (rD y.n) = unR (rD x.o))), RV.d (DV.bool false)), (RV.d (DV.int Go.IntKind.i64 (Go.IntKind.i64.wrap ((Nat.cast (R := Int) i) + 1))), RV.d (DV.int Go.IntKind.i64 (Nat.cast (R := Int) (i + 1))))] rfl (by kernel_rfl : runSegA (cfB ts7) 1000 0 _ _ _ _ (mg1 M all l (i : Int)) = some (stackAt mgC 0, mg1 M (all.set j (.agg (splice ((all.getD j .nilp).cells) 3 [rD x.n]))) l ((i + 1 : Nat) : Int), _, _)) (by refine ⟨?_, ?_, ?_, ?_, ?_, ?_, ?_, ?_, ?_, ?_, ?_, ?_, trivial⟩ <;> (first | exact hb1 | exact isC_chD hxo | exact hmx | exact hkeys | exact by1 | exact by2 | exact by3 | exact ok_n hyo | exact ok_o hxo)) (by refine ⟨?_, ?_, ?_, ?_, ?_, ?_, ?_, ?_, trivial⟩ <;> (first | exact le_bool hb3 | exact hb2 | exact hon | exact hg2 | exact le_bool g1 | exact by4 | exact hsame | exact ov_succ (by omega))) ?_
          exact hw
        · have hst : mStep A x = none := by unfold mStep; rw [hf]; simp only [gy]; rw [if_neg hyx]
          simp only [mFold, hst] at hfold
          have hR : mrgC L = ([], 220) := by unfold mrgC; rw [← hfold]
          show WK Try.prog 0 _ _ (Ends (Try.f52.results.toList) (.tup [.d (chL (mrgC L).1), .d (.int .i64 (mrgC L).2)]))
          rw [hR]
          have hsame : RVle (.d (.bool (!decide (unR (rD y.n) = unR (rD x.o))))) (.d (.bool true)) := le_bool (by rw [unR_rD, unR_rD, decide_eq_false hyx]; rfl)
          obtain ⟨all, hall⟩ : ∃ all, A.map chD = all := ⟨_, rfl⟩
          obtain ⟨M, hM⟩ : ∃ M, mapFrom 0 A = M := ⟨_, rfl⟩
          obtain ⟨nm, hnm⟩ : ∃ nm, nameB x = nm := ⟨_, rfl⟩
          have hon : RVle (.d (.str (nameB (toChg (chD x))))) (.d (.str nm)) := by rw [← hnm]; exact ov_nm
          obtain ⟨l, hl⟩ : ∃ l, L.map chD = l := ⟨_, rfl⟩
          rw [hall] at by1 by2 by3 by4 ⊢
          rw [hM] at g1 hg2 hkeys ⊢
          rw [hnm] at g1 hg2
          rw [hl] at hb1 hb2 hb3 ⊢
          clear ih hname hfold hA
          exact WK.fin ok 1000 0 [(15, RV.d (DV.bool true)), (16, RV.iptr (DV.agg [DV.str x.1, DV.lst 3 (List.map vD x.2) false, DV.lst 3 (List.map vD x.3) false, DV.lst 3 (List.map vD x.4) false]) 0), (19, RV.d (DV.str nm)), (25, RV.d (DV.bool true)), (24, RV.d (DV.int Go.IntKind.i64 (Nat.cast (R := Int) j))), (40, RV.d (DV.lst 3 (List.map vD y.4) false)), (44, RV.d (DV.bool true)), (2, RV.d (DV.lst 4 [] false))] [decide (0 ≤ (Nat.cast (R := Int) i) ∧ (Nat.cast (R := Int) i) < (Nat.cast (R := Int) l.length)), isC (DV.agg [DV.str x.1, DV.lst 3 (List.map vD x.2) false, DV.lst 3 (List.map vD x.3) false, DV.lst 3 (List.map vD x.4) false]), Plain.mayC { t := x.1, k := List.map toVal (List.map vD x.k), o := List.map toVal (List.map vD x.o), n := List.map toVal (List.map vD x.n) }, M.all fun p => keyOk ((cfB ts7).E.und (9)) p.fst, decide (0 ≤ (Nat.cast (R := Int) j) ∧ (Nat.cast (R := Int) j) < (Nat.cast (R := Int) all.length)), decide ((Nat.cast (R := Int) j).toNat < all.length), Nat.ble 4 (all.getD (Nat.cast (R := Int) j).toNat DV.nilp).cells.length, decide ((List.map vD y.n).length ≤ 65536) && (List.map vD y.4).all isVal && true && true, decide ((List.map vD x.o).length ≤ 65536) && (List.map vD x.3).all isVal && true && true] [(RV.d (DV.bool (decide ((Nat.cast (R := Int) i) < (Nat.cast (R := Int) l.length)))), RV.d (DV.bool true)), (RV.iptr (l.getD (Nat.cast (R := Int) i).toNat DV.nilp) 0, RV.iptr (DV.agg [DV.str x.1, DV.lst 3 (List.map vD x.2) false, DV.lst 3 (List.map vD x.3) false, DV.lst 3 (List.map vD x.4) false]) 0), (RV.d (DV.str (nameB { t := x.1, k := List.map toVal (List.map vD x.k), o := List.map toVal (List.map vD x.o), n := List.map toVal (List.map vD x.n) })), RV.d (DV.str nm)), (RV.d (mget (DV.str nm) (DV.int Go.IntKind.i64 (0)) M), RV.d (DV.int Go.IntKind.i64 (Nat.cast (R := Int) j))), (RV.d (DV.bool (mhas (DV.str nm) M)), RV.d (DV.bool true)), (RV.d ((all.getD (Nat.cast (R := Int) j).toNat DV.nilp).cells.getD 3 DV.nilp), RV.d (DV.lst 3 (List.map vD y.4) false)), (RV.d (DV.bool !decide (unR (rD y.n) = unR (rD x.o))), RV.d (DV.bool true)), (RV.d (DV.lst 0 [] true), RV.d (DV.lst 4 [] false))] rfl (by kernel_rfl : runEnd (cfB ts7) true _ 1000 0 _ _ (mg1 M all l (i : Int)) = some (RV.tup [RV.d (DV.lst 4 [] false), RV.d (DV.int Go.IntKind.i64 (220))], [], _, _)) (by refine ⟨?_, ?_, ?_, ?_, ?_, ?_, ?_, ?_, ?_, trivial⟩ <;> (first | exact hb1 | exact isC_chD hxo | exact hmx | exact hkeys | exact by1 | exact by2 | exact by3 | exact ok_n hyo | exact ok_o hxo)) (by refine ⟨?_, ?_, ?_, ?_, ?_, ?_, ?_, ?_, trivial⟩ <;> (first | exact le_bool hb3 | exact hb2 | exact hon | exact hg2 | exact le_bool g1 | exact by4 | exact hsame | exact nil_leM)) ⟨rfl, rfl⟩
    · have e : i = L.length := by omega
      rw [e, List.drop_eq_nil_of_le (Nat.le_refl _)] at hfold
      simp only [mFold] at hfold
      have hR : mrgC L = (Srt.isort cmpC (live A), 0) := by unfold mrgC; rw [← hfold]
      show WK Try.prog 0 _ _ (Ends (Try.f52.results.toList) (.tup [.d (chL (mrgC L).1), .d (.int .i64 (mrgC L).2)]))
      rw [hR]
      have hlv : ∀ y ∈ live A, y ∈ A := fun y hy => (List.mem_filter.1 hy).1
      have h1 : (A.map chD).all isC = true := all_isC (fun y hy => (hA y hy).1)
      have h2 : decide ((A.map chD).length ≤ 65536) = true := decide_eq_true (by rw [List.length_map]; omega)
      have h3 : ((live ((A.map chD).map toChg)).map chD).all isC = true := by rw [unL_map]; exact all_isC (fun y hy => (hA y (hlv y hy)).1)
      have h4 : decide (((live ((A.map chD).map toChg)).map chD).length ≤ 65536) = true := decide_eq_true (by
        rw [unL_map, List.length_map]
        have : (live A).length ≤ A.length := List.length_filter_le _ _
        omega)
      have h5 : distB (((live ((A.map chD).map toChg)).map chD).map toChg) = true := by
        rw [unL_map, unL_map]
        exact distB_nokey (fun y hy => keyed_row (hA y (hlv y hy)).2) (nokey_filter _ hnk)
      have h6 : (Srt.isort cmpC (((live ((A.map chD).map toChg)).map chD).map toChg)).map chD = (Srt.isort cmpC (live A)).map chD := by rw [unL_map, unL_map]
      have hf : decide ((Nat.cast (R := Int) i) < (Nat.cast (R := Int) (L.map chD).length)) = false := decide_eq_false (by rw [List.length_map]; omega)
      obtain ⟨all, hall⟩ : ∃ all, A.map chD = all := ⟨_, rfl⟩
      obtain ⟨M, hM⟩ : ∃ M, mapFrom 0 A = M := ⟨_, rfl⟩
      obtain ⟨l, hl⟩ : ∃ l, L.map chD = l := ⟨_, rfl⟩
      rw [hall] at h1 h2 h3 h4 h5 h6 ⊢
      rw [hM, hl]
      rw [hl] at hf
      clear ih hA hfold
      exact WK.fin ok 1000 0 [(15, RV.d (DV.bool false))] [true, true, all.all isC, decide (all.length ≤ 65536), true, true, (List.map chD (Plain.live (List.map toChg all))).all isC, decide ((List.map chD (Plain.live (List.map toChg all))).length ≤ 65536), Plain.distB (List.map toChg (List.map chD (Plain.live (List.map toChg all))))] [(RV.d (DV.bool (decide ((Nat.cast (R := Int) i) < (Nat.cast (R := Int) l.length)))), RV.d (DV.bool false))] rfl (by kernel_rfl : runEnd (cfB ts7) true _ 1000 0 _ _ (mg1 M all l (i : Int)) = some (RV.tup [RV.d (DV.lst 4 (List.map chD (List.foldl (Srt.insE Plain.cmpC) [] (List.map toChg (List.map chD (Plain.live (List.map toChg all)))))) false), RV.d (DV.int Go.IntKind.i64 (0))], [], _, _)) (by refine ⟨?_, ?_, ?_, ?_, ?_, ?_, ?_, ?_, ?_, trivial⟩ <;> (first | rfl | exact h1 | exact h2 | exact h3 | exact h4 | exact h5)) ⟨(by exact le_bool hf), trivial⟩ ⟨by show RV.tup [.d (.lst 4 _ false), _] = RV.tup [.d (.lst 4 _ false), _]; rw [← h6]; rfl, rfl⟩
  obtain ⟨l, hl⟩ : ∃ l, L.map chD = l := ⟨_, rfl⟩
  show WK Try.prog 0 _ (ini 57 [.d (.lst 4 (L.map chD) false)] []).den _
  rw [hl] at hloop ⊢
  refine WK.segA ok 1000 0 [] [(5, 250, chT, 4)] [4, 5, 12, 13, 14] [] [] rfl (by kernel_rfl : runSegA (cfB ts7) 1000 0 _ _ _ _ (ini 57 [.d (.lst 4 l false)] []) = some (stackAt mgC 0, mg1 [] [] l 0, _, _)) trivial trivial ?_
  exact hloop
end Go.Proofs.Ytljfolepmkcjlaa

/-
  slices.Clone, change.Merge, Concat, Invert, run.
-/
namespace Go.Proofs.Ytljfolepmkcjlaa
open Go.RowKit Plain Am IntWalk
set_option maxRecDepth 100000
set_option linter.unusedVariables false
set_option linter.unusedSimpArgs false

noncomputable abbrev clC : Code := bodyOf Try.f41
noncomputable abbrev mergC0 : Code := bodyOf Try.f26
noncomputable abbrev coC : Code := bodyOf Try.f19
def mrgE : Ent := fun a o => match a, o with
  | [.d x], [] => some (.tup [.d (chL (mrgC (unL x)).1), .d (.int .i64 (mrgC (unL x)).2)], [], [isL x, (unL x).all mayC, decide ((unL x).length ≤ 10000)])
  | _, _ => none
def mergE : Ent := fun a o => match a, o with
  | [.d x], [] => some (.tup [.d (chL (mergeC (unL x)).1), .d (.int .i64 (mergeC (unL x)).2)], [], [isL x, (unL x).all mayC, decide ((unL x).length ≤ 10000)])
  | _, _ => none
def cloneE : Ent := fun a o => match a, o with
  | [.d (.lst 4 els false)], [] => some (.own 0 4, [.arr chT 4 els], [isL (.lst 4 els false)])
  | _, _ => none
noncomputable def ts8 : List (Nat × Ent) := [(52, mrgE), (17, e1 ckG)]
noncomputable def ts9 : List (Nat × Ent) := [(26, mergE), (17, e1 ckG), (41, cloneE)]
def cc1 (a b : List DV) (i : Int) : ESt := { n := 28, m := 0, regs := T.mk [(0, .d (.lst 4 a false)), (1, .d (.lst 4 b false)), (11, .d (.agg [.lst 4 a false, .lst 4 b false])), (12, .d (.int .i64 i))], objs := T.nil }
theorem info_chg : (Try.prog.info? 46).map (fun i => (i.zero, i.size, i.bytes)) = some (some (.agg #[.string ⟨#[]⟩, .slice none 0 0, .slice none 0 0, .slice none 0 0]), 4, 88) := by kernel_rfl
theorem clone_nil (n c : Nat) (w : World) : Calls Try.prog 41 #[.slice none n c] w fun e w' => e = .returned (.slice none 0 0) ∧ w' = w := by
  have q22 : ∀ (w : World) (a : Option Addr) (n c n' c' : Nat), (binOp .eql 22 (.slice a n c) (.slice none n' c')).run Try.prog w = .ok (.bool a.isNone) w := fun w a n c n' c' => Go.Lib.run_eql_slice_nil w _ _ a n c n' c' Try.underlying22
  go_enter Try.func41, Try.ntmps41
  go_wp2
  go_ret
  exact ⟨rfl, rfl⟩
set_option maxHeartbeats 2000000 in
theorem clone_zero (a : Addr) (c : Nat) (w : World) : Calls Try.prog 41 #[.slice (some a) 0 c] w fun e w' => ∃ v', e = .returned v' ∧ w'.ownsRow w.heap.size 46 4 v' 0 [] ∧ v' ≠ .slice none 0 0 ∧ Below w.heap.size w w' := by
  have q22 : ∀ (w : World) (a : Option Addr) (n c n' c' : Nat), (binOp .eql 22 (.slice a n c) (.slice none n' c')).run Try.prog w = .ok (.bool a.isNone) w := fun w a n c n' c' => Go.Lib.run_eql_slice_nil w _ _ a n c n' c' Try.underlying22
  have u22 : ∀ w, Sem.run Try.prog (underlying 22) w = .ok (TypeDesc.slice 46) w := run_underlying Try.underlying22
  obtain ⟨i0, hi, hz0, hz1, hz2⟩ := info_parts info_chg
  go_enter Try.func41, Try.ntmps41
  go_wp2_with (at_builtin; refine wpList_append_own _ rfl _ _ 22 rfl w.heap.size 46 i0 (.agg #[.string ⟨#[]⟩, .slice none 0 0, .slice none 0 0, .slice none 0 0]) 4 88 Try.underlying22 hi hz0 hz1 hz2 rfl (by decide) _ _ _ rfl (World.ownsRow_made w #[] 0 (Nat.le_refl _) (Nat.zero_le _) rfl) a 0 c [] rfl rfl (by intro j u hj; simp at hj) (by intro u hu; cases hu) (by unfold maxLen; omega) (by omega) (by simp) ?_)
  intro v' w1 hown hgrow hnil
  go_wp2
  go_ret
  refine ⟨v', rfl, by simpa using hown, ?_, ?_⟩
  · first | exact hnil | (intro e; exact absurd (hnil.1 e).1 (by simp))
  · exact ((Below.refl _ w).alloc (Nat.le_refl _) _).grown hgrow (by simp) (by intro k hk; simp [Value.ownBlock] at hk; omega)
theorem clone_e : C Try.prog 41 [.d (.lst 4 [] false)] [] (fun r o => r = .own 0 4 ∧ o = [.arr chT 4 []]) := by
  intro κ φ w vs h1 h2 h3 h4
  have hs : vs.size = 1 := by simpa using h3
  have e1 : vs[0]? = some vs[0] := by simp [show 0 < vs.size by omega]
  have r0 := h4 0 _ _ rfl e1
  have hvs : vs = #[vs[0]] := by
    apply Array.ext
    · simpa using hs
    · intro i hi hi2; simp at hi2; subst hi2; rfl
  rw [hvs]
  generalize vs[0] = v0 at r0
  clear e1 hvs
  have hun : ∀ i, φ i = .un := fun i => h1 i
  have fz : ∀ {φ' : Phi}, Kp φ (tabOf []) φ' (tabOf [.arr chT 4 []]) := ⟨fun i hi => absurd (hun i) hi, fun i n hi _ => absurd (hun i) hi⟩
  have hbase : ∃ base c, v0 = .slice base 0 c := by
    cases r0 with
    | d hr =>
    cases hr with
    | lst0 hf => exact ⟨_, _, rfl⟩
    | lst hκ hb hf hc hs hz hr => exact ⟨_, _, rfl⟩
  obtain ⟨base, c, rfl⟩ := hbase
  cases base with
  | none =>
    refine (clone_nil 0 c w).mono ?_
    rintro e w' ⟨rfl, rfl⟩
    refine ⟨_, .own 0 4, [.arr chT 4 []], κ, setP φ 0 .nil, rfl, ⟨rfl, rfl⟩, .ownNil (setP_same _ _ _), fun i => ?_, h2, by simp, Fr.refl _ _, fz⟩
    match i with
    | 0 => exact .inl ⟨setP_same _ _ _, rfl⟩
    | i + 1 => show setP φ 0 .nil (i + 1) = .un; rw [setP_ne _ _ (by omega)]; exact hun _
  | some a =>
    refine (clone_zero a c w).mono ?_
    rintro e w' ⟨v, rfl, ⟨_, ho⟩, hne, hB⟩
    rcases ho with ⟨rfl, _⟩ | ⟨g, cap, cur, rfl, hg, hc, h5, _, h6, h7⟩
    · exact absurd rfl hne
    have hlt : g < w'.heap.size := (Array.getElem?_eq_some_iff.1 hc).1
    have him : ∀ x, κ x ≠ .oth → x ≠ g := fun x hx e => by subst e; have := h2 x hx; omega
    have hk : ∀ x, x ≠ g → setK κ g (.own 0) x = κ x := fun x hx => by unfold setK; rw [if_neg hx]
    refine ⟨_, .own 0 4, [.arr chT 4 []], setK κ g (.own 0), setP φ 0 (.at g), rfl, ⟨rfl, rfl⟩, .own (setP_same _ _ _) hc (by omega) h5 (fun n hn => by simpa [tabOf, PObj.len?] using hn), fun i => ?_, fun x hx => ?_, by simp, ?_, fz⟩
    · match i with
      | 0 => exact .inr ⟨g, cur, (0, 0), setP_same _ _ _, by unfold setK; rw [if_pos rfl], hc, fzOk00 _, ⟨by intro x hx; simp at hx, by simp, by intro i x j y v hx; simp at hx⟩⟩
      | i + 1 => show setP φ 0 (.at g) (i + 1) = .un; rw [setP_ne _ _ (by omega)]; exact hun _
    · by_cases e : x = g
      · subst e; exact hlt
      · rw [hk x e] at hx; exact Nat.lt_of_lt_of_le (h2 x hx) hB.size
    · refine ⟨hB.size, fun x hx => ?_, fun x hxl hx => ?_, fun x c ty fz hx => ?_, hB.os, hB.output⟩
      · have e := him x (by rw [hx]; simp)
        exact ⟨by rw [hk x e]; exact hx, hB.block x (h2 x (by rw [hx]; simp))⟩
      · exact ⟨by rw [hk x (by omega)]; exact hx, hB.block x hxl⟩
      · have hxl : x < w.heap.size := (Array.getElem?_eq_some_iff.1 hx).1
        exact ⟨c, fz, by rw [hB.block x hxl]; exact hx, rfl⟩
theorem clone_c (L : List Chg) (hok : okL L) : C Try.prog 41 [.d (.lst 4 (L.map chD) false)] [] (fun r o => r = .own 0 4 ∧ o = [.arr chT 4 (L.map chD)]) := by
  cases L with
  | nil => exact clone_e
  | cons x r =>
    have ok := cfB_ok (l := []) .nil
    have hl := hok.1
    refine C_of_run (fn := Try.f41) (body := clC) false (by kernel_rfl) (by kernel_rfl) (by kernel_rfl) ?_
    obtain ⟨l, hll⟩ : ∃ l, r.map chD = l := ⟨_, rfl⟩
    obtain ⟨z, hz⟩ : ∃ z, chD x = z := ⟨_, rfl⟩
    have h1 : l.length ≤ 65536 := by rw [← hll, List.length_map]; simp at hl; omega
    rw [List.map_cons, hll, hz]
    have hrun : runEnd (cfB []) false (Try.f41.results.toList) 1000 0 [] [.code clC] (ini 8 [.d (.lst 4 (z :: l) false)] []) = some (.own 0 4, [.arr chT 4 ([] ++ z :: l)], [decide ((([] : List DV).length + (z :: l).length) * 88 ≤ 2 ^ 38)], []) := by kernel_rfl
    exact WK.fin ok 1000 0 _ _ _ rfl hrun ⟨decide_eq_true (by simp only [List.length_nil, List.length_cons]; omega), trivial⟩ trivial ⟨rfl, rfl⟩
theorem clone_ent : EntOk Try.prog 41 cloneE := by
  intro a o r o' c hg hc
  unfold cloneE at hg
  split at hg
  · rename_i els
    simp only [Option.some.injEq, Prod.mk.injEq] at hg
    obtain ⟨rfl, rfl, rfl⟩ := hg
    obtain ⟨L, hL, hok⟩ := isL_spec (hc (isL (.lst 4 els false)) (by simp))
    have : els = L.map chD := by simpa [chL] using hL
    subst this
    exact clone_c L hok
  · cases hg
/-! ### Merge -/
theorem mFold_ok : ∀ {l A B : List Chg}, (∀ c ∈ A, Chg.ok c) → (∀ c ∈ l, Chg.ok c) → mFold A l = some B → (∀ c ∈ B, Chg.ok c) ∧ B.length ≤ A.length + l.length
  | [], A, B, hA, _, h => by simp only [mFold, Option.some.injEq] at h; subst h; exact ⟨hA, by simp⟩
  | x :: r, A, B, hA, hl, h => by
    simp only [mFold] at h
    cases hs : mStep A x with
    | none => rw [hs] at h; cases h
    | some A' =>
      rw [hs] at h
      have key : (∀ c ∈ A', Chg.ok c) ∧ A'.length ≤ A.length + 1 := by
        unfold mStep at hs
        split at hs
        · injection hs with hs; subst hs
          refine ⟨fun c hc => ?_, by simp⟩
          rcases List.mem_append.1 hc with hc | hc
          · exact hA c hc
          · rw [List.mem_singleton.1 hc]; exact hl x (by simp)
        · split at hs
          · cases hs
          · rename_i y gy
            split at hs
            · injection hs with hs; subst hs
              refine ⟨fun c hc => ?_, by simp⟩
              rcases List.mem_or_eq_of_mem_set hc with hc | rfl
              · exact hA c hc
              · exact ok_set (hA y (List.mem_of_getElem? gy)) (hl x (by simp))
            · cases hs
      obtain ⟨i1, i2⟩ := mFold_ok key.1 (fun c hc => hl c (by simp [hc])) h
      refine ⟨i1, ?_⟩
      have := key.2
      simp only [List.length_cons]; omega
theorem mrgC_ok {L : List Chg} (h : okL L) : okL (mrgC L).1 := by
  unfold mrgC
  cases hf : mFold [] L with
  | none => exact ⟨by simp, by simp⟩
  | some A =>
    obtain ⟨h1, h2⟩ := mFold_ok (by simp) h.2 hf
    have hp := (Srt.isort_ok preC (live A)).2
    have h3 : (live A).length ≤ A.length := List.length_filter_le _ _
    refine ⟨?_, fun c hc => h1 c ((List.mem_filter.1 (hp.mem_iff.1 hc)).1)⟩
    show (Srt.isort cmpC (live A)).length ≤ 65536
    rw [hp.length_eq]
    have := h.1
    simp only [List.length_nil] at h2; omega
theorem mergeC_of (L : List Chg) : mergeC L = if (mrgC L).2 = 0 then (if mayL (mrgC L).1 then ((mrgC L).1, 0) else ([], 2)) else ([], (mrgC L).2) := by
  unfold mergeC mrgC
  cases mFold [] L with
  | none => rfl
  | some A => rfl
theorem mrg_ent : EntOk Try.prog 52 mrgE := by
  intro a o r o' c hg hc
  unfold mrgE at hg
  split at hg
  · rename_i x
    simp only [Option.some.injEq, Prod.mk.injEq] at hg
    obtain ⟨rfl, rfl, rfl⟩ := hg
    obtain ⟨L, rfl, hok⟩ := isL_spec (hc (isL x) (by simp))
    have h2 := hc ((unL (chL L)).all mayC) (by simp)
    have h3 := of_decide_eq_true (hc (decide ((unL (chL L)).length ≤ 10000)) (by simp))
    rw [unL_chL] at h2 h3 ⊢
    exact merge_c L hok (by simpa [List.all_eq_true] using h2) h3
  · cases hg
theorem ts8_ok : EntsOk Try.prog ts8 := .cons mrg_ent (.cons ck_ent .nil)
theorem Merge_c (L : List Chg) (hok : okL L) (hm : ∀ x ∈ L, mayC x = true) (hl6 : L.length ≤ 10000) : C Try.prog 26 [.d (chL L)] [] (fun r o => r = .tup [.d (chL (mergeC L).1), .d (.int .i64 (mergeC L).2)] ∧ o = []) := by
  have ok := cfT_ok ts8_ok
  refine C_of_run (fn := Try.f26) (body := mergC0) true (by kernel_rfl) (by kernel_rfl) (by kernel_rfl) ?_
  have k1 := isL_chL hok
  have k2 : (unL (chL L)).all mayC = true := by rw [unL_chL]; simpa [List.all_eq_true] using hm
  have k3 : decide ((unL (chL L)).length ≤ 10000) = true := decide_eq_true (by rw [unL_chL]; exact hl6)
  have k4 : isL (chL (mrgC (unL (chL L))).1) = true := by rw [unL_chL]; exact isL_chL (mrgC_ok hok)
  have hf := mergeC_of L
  have e1 : (mrgC (unL (chL L))).1 = (mrgC L).1 := by rw [unL_chL]
  have e2 : (mrgC (unL (chL L))).2 = (mrgC L).2 := by rw [unL_chL]
  by_cases h0 : (mrgC L).2 = 0
  · by_cases h1 : mayL (mrgC L).1 = true
    · rw [if_pos h0, if_pos h1] at hf
      have q1 : RVle (.d (.bool ((mrgC (unL (chL L))).2 == 0))) (.d (.bool true)) := le_bool (by rw [e2, h0]; rfl)
      have q2 : RVle (.d (.bool ((if mayL (unL (chL (mrgC (unL (chL L))).1)) = true then (0 : Int) else 2) != 0))) (.d (.bool false)) := le_bool (by rw [unL_chL, e1, h1]; rfl)
      exact WK.fin ok 1000 0 [(12, RV.d (DV.bool true)), (16, RV.d (DV.bool false))] [isL (DV.lst 4 (L.map chD) false), (unL (DV.lst (4) (L.map chD) false)).all Plain.mayC, decide ((unL (DV.lst (4) (L.map chD) false)).length ≤ 10000), isL (DV.lst 4 (List.map chD (Plain.mrgC (unL (DV.lst (4) (L.map chD) false))).1) false)] [(RV.d (DV.bool ((Plain.mrgC (unL (DV.lst (4) (L.map chD) false))).2 == 0)), RV.d (DV.bool true)), (RV.d (DV.bool ((if Plain.mayL (unL (chL (Plain.mrgC (unL (DV.lst (4) (L.map chD) false))).fst)) = true then (0 : Int) else 2) != 0)), RV.d (DV.bool false))] rfl (by kernel_rfl : runEnd (cfT ts8) true _ 1000 0 _ _ (ini 19 [.d (.lst 4 (L.map chD) false)] []) = some (RV.tup [RV.d (DV.lst 4 (List.map chD (Plain.mrgC (unL (DV.lst (4) (L.map chD) false))).1) false), RV.d (DV.int Go.IntKind.i64 (0))], [], _, _)) (by refine ⟨?_, ?_, ?_, ?_, trivial⟩ <;> (first | exact k1 | exact k2 | exact k3 | exact k4)) (by refine ⟨?_, ?_, trivial⟩ <;> (first | exact q1 | exact q2)) ⟨by rw [hf, ← e1]; rfl, rfl⟩
    · have h1' : mayL (mrgC L).1 = false := by simpa using h1
      rw [if_pos h0, if_neg h1] at hf
      have q1 : RVle (.d (.bool ((mrgC (unL (chL L))).2 == 0))) (.d (.bool true)) := le_bool (by rw [e2, h0]; rfl)
      have q2 : RVle (.d (.bool ((if mayL (unL (chL (mrgC (unL (chL L))).1)) = true then (0 : Int) else 2) != 0))) (.d (.bool true)) := le_bool (by rw [unL_chL, e1, h1']; rfl)
      have q3 : (if mayL (unL (chL (mrgC (unL (chL L))).1)) = true then (0 : Int) else 2) = 2 := by rw [unL_chL, e1, h1']; rfl
      exact WK.fin ok 1000 0 [(12, RV.d (DV.bool true)), (16, RV.d (DV.bool true)), (2, RV.d (DV.lst 4 [] false))] [isL (DV.lst 4 (L.map chD) false), (unL (DV.lst (4) (L.map chD) false)).all Plain.mayC, decide ((unL (DV.lst (4) (L.map chD) false)).length ≤ 10000), isL (DV.lst 4 (List.map chD (Plain.mrgC (unL (DV.lst (4) (L.map chD) false))).1) false)] [(RV.d (DV.lst 0 [] true), RV.d (DV.lst 4 [] false)), (RV.d (DV.bool ((Plain.mrgC (unL (DV.lst (4) (L.map chD) false))).2 == 0)), RV.d (DV.bool true)), (RV.d (DV.bool ((if Plain.mayL (unL (chL (Plain.mrgC (unL (DV.lst (4) (L.map chD) false))).fst)) = true then (0 : Int) else 2) != 0)), RV.d (DV.bool true)), (RV.d (DV.lst 0 [] true), RV.d (DV.lst 4 [] false))] rfl (by kernel_rfl : runEnd (cfT ts8) true _ 1000 0 _ _ (ini 19 [.d (.lst 4 (L.map chD) false)] []) = some (RV.tup [RV.d (DV.lst 4 [] false), RV.d (DV.int Go.IntKind.i64 (if Plain.mayL (unL (chL (Plain.mrgC (unL (DV.lst (4) (L.map chD) false))).fst)) = true then (0 : Int) else 2))], [], _, _)) (by refine ⟨?_, ?_, ?_, ?_, trivial⟩ <;> (first | exact k1 | exact k2 | exact k3 | exact k4)) (by refine ⟨?_, ?_, ?_, ?_, trivial⟩ <;> (first | exact q1 | exact q2 | exact nil_leM)) ⟨by rw [hf]; show RV.tup [_, .d (.int .i64 (if mayL (unL (chL (mrgC (unL (chL L))).1)) = true then (0 : Int) else 2))] = _; rw [q3]; rfl, rfl⟩
  · rw [if_neg h0] at hf
    have q1 : RVle (.d (.bool ((mrgC (unL (chL L))).2 == 0))) (.d (.bool false)) := le_bool (by rw [e2]; simpa using h0)
    have q2 : RVle (.d (.bool ((mrgC (unL (chL L))).2 != 0))) (.d (.bool true)) := le_bool (by rw [e2]; simpa using h0)
    exact WK.fin ok 1000 0 [(12, RV.d (DV.bool false)), (16, RV.d (DV.bool true)), (2, RV.d (DV.lst 4 [] false))] [isL (DV.lst 4 (L.map chD) false), (unL (DV.lst (4) (L.map chD) false)).all Plain.mayC, decide ((unL (DV.lst (4) (L.map chD) false)).length ≤ 10000)] [(RV.d (DV.lst 0 [] true), RV.d (DV.lst 4 [] false)), (RV.d (DV.bool ((Plain.mrgC (unL (DV.lst (4) (L.map chD) false))).2 == 0)), RV.d (DV.bool false)), (RV.d (DV.bool ((Plain.mrgC (unL (DV.lst (4) (L.map chD) false))).2 != 0)), RV.d (DV.bool true)), (RV.d (DV.lst 0 [] true), RV.d (DV.lst 4 [] false))] rfl (by kernel_rfl : runEnd (cfT ts8) true _ 1000 0 _ _ (ini 19 [.d (.lst 4 (L.map chD) false)] []) = some (RV.tup [RV.d (DV.lst 4 [] false), RV.d (DV.int Go.IntKind.i64 (Plain.mrgC (unL (DV.lst (4) (L.map chD) false))).2)], [], _, _)) (by refine ⟨?_, ?_, ?_, trivial⟩ <;> (first | exact k1 | exact k2 | exact k3 | exact k4)) (by refine ⟨?_, ?_, ?_, ?_, trivial⟩ <;> (first | exact q1 | exact q2 | exact nil_leM)) ⟨by rw [hf, ← e2]; rfl, rfl⟩
theorem merg_ent : EntOk Try.prog 26 mergE := by
  intro a o r o' c hg hc
  unfold mergE at hg
  split at hg
  · rename_i x
    simp only [Option.some.injEq, Prod.mk.injEq] at hg
    obtain ⟨rfl, rfl, rfl⟩ := hg
    obtain ⟨L, rfl, hok⟩ := isL_spec (hc (isL x) (by simp))
    have h2 := hc ((unL (chL L)).all mayC) (by simp)
    have h3 := of_decide_eq_true (hc (decide ((unL (chL L)).length ≤ 10000)) (by simp))
    rw [unL_chL] at h2 h3 ⊢
    exact Merge_c L hok (by simpa [List.all_eq_true] using h2) h3
  · cases hg
theorem ts9_ok : EntsOk Try.prog ts9 := .cons merg_ent (.cons ck_ent (.cons clone_ent .nil))
/-! ### Concat -/
theorem mayL_all {L : List Chg} (h : mayL L = true) : (∀ x ∈ L, mayC x = true) ∧ L.length ≤ 1000 := by
  simp only [mayL, Bool.and_eq_true, decide_eq_true_eq] at h
  refine ⟨?_, h.1⟩
  have key : ∀ (l : List Chg) (p : Option Chg), mayI p l = true → ∀ x ∈ l, mayC x = true := by
    intro l
    induction l with
    | nil => intro p _ x hx; simp at hx
    | cons y r ih =>
      intro p hp x hx
      simp only [mayI, Bool.and_eq_true] at hp
      rcases List.mem_cons.1 hx with rfl | hx
      · exact hp.1.1
      · exact ih _ hp.2 x hx
  exact key L none h.2
theorem Concat_c (a b : List Chg) (ha : okL a) (hb : okL b) : C Try.prog 19 [.d (chL a), .d (chL b)] [] (fun r o => r = .tup [.d (chL (concatC a b).1), .d (.int .i64 (concatC a b).2)] ∧ o = []) := by
  have ok := cfT_ok ts9_ok
  refine C_of_run (fn := Try.f19) (body := coC) true (by kernel_rfl) (by kernel_rfl) (by kernel_rfl) ?_
  have ka := isL_chL ha
  have kb := isL_chL hb
  obtain ⟨l, hl⟩ : ∃ l, a.map chD = l := ⟨_, rfl⟩
  obtain ⟨l2, hl2⟩ : ∃ l2, b.map chD = l2 := ⟨_, rfl⟩
  have ka' : isL (.lst 4 l false) = true := by rw [← hl]; exact ka
  have kb' : isL (.lst 4 l2 false) = true := by rw [← hl2]; exact kb
  have ea : unL (.lst 4 l false) = a := by rw [← hl]; exact unL_chL a
  have eb : unL (.lst 4 l2 false) = b := by rw [← hl2]; exact unL_chL b
  have fin : ∀ {i : Int} {ma mb : Bool}, True := fun {_ _ _} => trivial
  show WK Try.prog 0 _ (ini 28 [.d (.lst 4 (a.map chD) false), .d (.lst 4 (b.map chD) false)] []).den _
  rw [hl, hl2]
  refine WK.segA ok 1000 0 [] [] [0, 1, 11, 12] [] [] rfl (by kernel_rfl : runSegA (cfT ts9) 1000 0 _ _ _ _ (ini 28 [.d (.lst 4 l false), .d (.lst 4 l2 false)] []) = some (stackAt coC 0, cc1 l l2 0, _, _)) trivial trivial ?_
  skip
  by_cases h1 : mayL a = true
  · have q1 : RVle (.d (.bool ((if mayL (unL (.lst 4 l false)) = true then (0 : Int) else 2) != 0))) (.d (.bool false)) := le_bool (by rw [ea, h1]; rfl)
    have hrun : runSegA (cfT ts9) 1000 0 [(14, RV.d (DV.lst 4 l false)), (18, RV.d (DV.bool false))] [] [0, 1, 11, 12] (stackAt coC 0) (cc1 l l2 0) = some (stackAt coC 0, cc1 l l2 1, [true, isL (DV.lst 4 l false)], [(RV.d (DV.lst 4 l false), RV.d (DV.lst 4 l false)), (RV.d (DV.bool ((if Plain.mayL (unL (DV.lst (4) l false)) = true then (0 : Int) else 2) != 0)), RV.d (DV.bool false))]) := by kernel_rfl
    refine WK.segA (st := (cc1 l l2 0)) (st' := cc1 l l2 1) (k := (stackAt coC 0)) (k' := stackAt coC 0) ok 1000 0 _ _ _ _ _ rfl hrun (by refine ⟨?_, ?_, trivial⟩ <;> (first | rfl | exact ka' | exact kb')) (by refine ⟨?_, ?_, trivial⟩ <;> (first | exact .of_eq rfl | exact q1)) ?_
    skip
    by_cases h2 : mayL b = true
    · have q2 : RVle (.d (.bool ((if mayL (unL (.lst 4 l2 false)) = true then (0 : Int) else 2) != 0))) (.d (.bool false)) := le_bool (by rw [eb, h2]; rfl)
      have hrun : runSegA (cfT ts9) 1000 0 [(14, RV.d (DV.lst 4 l2 false)), (18, RV.d (DV.bool false))] [] [0, 1, 11, 12] (stackAt coC 0) (cc1 l l2 1) = some (stackAt coC 0, cc1 l l2 2, [true, isL (DV.lst 4 l2 false)], [(RV.d (DV.lst 4 l2 false), RV.d (DV.lst 4 l2 false)), (RV.d (DV.bool ((if Plain.mayL (unL (DV.lst (4) l2 false)) = true then (0 : Int) else 2) != 0)), RV.d (DV.bool false))]) := by kernel_rfl
      refine WK.segA (st := (cc1 l l2 1)) (st' := cc1 l l2 2) (k := (stackAt coC 0)) (k' := stackAt coC 0) ok 1000 0 _ _ _ _ _ rfl hrun (by refine ⟨?_, ?_, trivial⟩ <;> (first | rfl | exact ka' | exact kb')) (by refine ⟨?_, ?_, trivial⟩ <;> (first | exact .of_eq rfl | exact q2)) ?_
      skip
      have hc : concatC a b = mergeC (a ++ b) := by unfold concatC; rw [h1, h2]; rfl
      rw [hc]
      obtain ⟨ma, la⟩ := mayL_all h1
      obtain ⟨mb, lb⟩ := mayL_all h2
      have eab : unL (.lst 4 (l ++ l2) false) = a ++ b := by rw [← hl, ← hl2, ← List.map_append]; exact unL_chL _
      have kab : isL (.lst 4 (l ++ l2) false) = true := by
        rw [← hl, ← hl2, ← List.map_append]
        exact isL_chL ⟨by simp only [List.length_append]; omega, fun c hc => by
          rcases List.mem_append.1 hc with hc | hc
          · exact ha.2 c hc
          · exact hb.2 c hc⟩
      have kma : (unL (.lst 4 (l ++ l2) false)).all mayC = true := by
        rw [eab, List.all_eq_true]
        intro c hc
        rcases List.mem_append.1 hc with hc | hc
        · exact ma c hc
        · exact mb c hc
      have kle : decide ((unL (.lst 4 (l ++ l2) false)).length ≤ 10000) = true := decide_eq_true (by rw [eab, List.length_append]; omega)
      have klen : decide ((l.length + l2.length) * 88 ≤ 2 ^ 38) = true := decide_eq_true (by rw [← hl, ← hl2, List.length_map, List.length_map]; omega)
      have hrun : runEnd (cfT ts9) true (Try.f19.results.toList) 1000 0 [] (stackAt coC 0) (cc1 l l2 2) = some (.tup [.d (chL (mergeC (unL (.lst 4 (l ++ l2) false))).1), .d (.int .i64 (mergeC (unL (.lst 4 (l ++ l2) false))).2)], [], [isL (.lst 4 l false), decide ((l.length + l2.length) * 88 ≤ 2 ^ 38), isL (.lst 4 (l ++ l2) false), (unL (.lst 4 (l ++ l2) false)).all mayC, decide ((unL (.lst 4 (l ++ l2) false)).length ≤ 10000)], []) := by kernel_rfl
      exact WK.fin ok 1000 0 _ _ _ rfl hrun ⟨ka', klen, kab, kma, kle, trivial⟩ trivial ⟨by rw [eab], rfl⟩
    · have h2' : mayL b = false := by simpa using h2
      have q2 : RVle (.d (.bool ((if mayL (unL (.lst 4 l2 false)) = true then (0 : Int) else 2) != 0))) (.d (.bool true)) := le_bool (by rw [eb, h2']; rfl)
      have q3 : (if mayL (unL (.lst 4 l2 false)) = true then (0 : Int) else 2) = 2 := by rw [eb, h2']; rfl
      have hc : concatC a b = ([], 2) := by unfold concatC; rw [h2', Bool.and_false]; rfl
      rw [hc]
      exact WK.fin ok 1000 0 [(14, RV.d (DV.lst 4 l2 false)), (18, RV.d (DV.bool true)), (4, RV.d (DV.lst 4 [] false))] [true, isL (DV.lst 4 l2 false)] [(RV.d (DV.lst 4 l2 false), RV.d (DV.lst 4 l2 false)), (RV.d (DV.bool ((if Plain.mayL (unL (DV.lst (4) l2 false)) = true then (0 : Int) else 2) != 0)), RV.d (DV.bool true)), (RV.d (DV.lst 0 [] true), RV.d (DV.lst 4 [] false))] rfl (by kernel_rfl : runEnd (cfT ts9) true _ 1000 0 _ _ (cc1 l l2 1) = some (RV.tup [RV.d (DV.lst 4 [] false), RV.d (DV.int Go.IntKind.i64 (if Plain.mayL (unL (DV.lst (4) l2 false)) = true then (0 : Int) else 2))], [], _, _)) (by refine ⟨?_, ?_, trivial⟩ <;> (first | rfl | exact ka' | exact kb')) (by refine ⟨?_, ?_, ?_, trivial⟩ <;> (first | exact q2 | exact nil_leM | exact .of_eq rfl)) ⟨by show RV.tup [_, .d (.int .i64 (if mayL (unL (.lst 4 l2 false)) = true then (0 : Int) else 2))] = _; rw [q3]; rfl, rfl⟩
  · have h1' : mayL a = false := by simpa using h1
    have q2 : RVle (.d (.bool ((if mayL (unL (.lst 4 l false)) = true then (0 : Int) else 2) != 0))) (.d (.bool true)) := le_bool (by rw [ea, h1']; rfl)
    have q3 : (if mayL (unL (.lst 4 l false)) = true then (0 : Int) else 2) = 2 := by rw [ea, h1']; rfl
    have hc : concatC a b = ([], 2) := by unfold concatC; rw [h1', Bool.false_and]; rfl
    rw [hc]
    exact WK.fin ok 1000 0 [(14, RV.d (DV.lst 4 l false)), (18, RV.d (DV.bool true)), (4, RV.d (DV.lst 4 [] false))] [true, isL (DV.lst 4 l false)] [(RV.d (DV.lst 4 l false), RV.d (DV.lst 4 l false)), (RV.d (DV.bool ((if Plain.mayL (unL (DV.lst (4) l false)) = true then (0 : Int) else 2) != 0)), RV.d (DV.bool true)), (RV.d (DV.lst 0 [] true), RV.d (DV.lst 4 [] false))] rfl (by kernel_rfl : runEnd (cfT ts9) true _ 1000 0 _ _ (cc1 l l2 0) = some (RV.tup [RV.d (DV.lst 4 [] false), RV.d (DV.int Go.IntKind.i64 (if Plain.mayL (unL (DV.lst (4) l false)) = true then (0 : Int) else 2))], [], _, _)) (by refine ⟨?_, ?_, trivial⟩ <;> (first | rfl | exact ka' | exact kb')) (by refine ⟨?_, ?_, ?_, trivial⟩ <;> (first | exact q2 | exact nil_leM | exact .of_eq rfl)) ⟨by show RV.tup [_, .d (.int .i64 (if mayL (unL (.lst 4 l false)) = true then (0 : Int) else 2))] = _; rw [q3]; rfl, rfl⟩
/-! ### Invert -/
end Go.Proofs.Ytljfolepmkcjlaa

/-
  The law's bound on sizes (great, of the laws on changes); the reference's Concat.
-/
namespace Go.Proofs.Ytljfolepmkcjlaa
open Go.RowKit Plain Am IntWalk
set_option maxRecDepth 100000
set_option linter.unusedVariables false
set_option linter.unusedSimpArgs false

end Go.Proofs.Ytljfolepmkcjlaa

/-
  Whether two changesets are the same.
-/
namespace Go.Proofs.Ytljfolepmkcjlaa
open Go.RowKit Plain Am IntWalk
set_option maxRecDepth 100000
set_option linter.unusedVariables false
set_option linter.unusedSimpArgs false

theorem chg_ext {x y : Chg} (h1 : x.t = y.t) (h2 : x.k = y.k) (h3 : x.o = y.o) (h4 : x.n = y.n) : x = y := by
  cases x; cases y; simp only at h1 h2 h3 h4; subst h1 h2 h3 h4; rfl
theorem sa_c (a b : List Chg) (ha : okL a) (hb : okL b) : C Try.prog 16 [.d (chL a), .d (chL b)] [] (fun r o => r = .d (.bool (decide (a = b))) ∧ o = []) := by
  have ok := cfT_ok t2_ok
  refine C_of_run (fn := Try.f16) (body := saC) true (by kernel_rfl) (by kernel_rfl) (by kernel_rfl) ?_
  have hal := ha.1
  have hloop : a.length = b.length → WK Try.prog 0 (stackAt saC 0) (saS (a.map chD) (b.map chD) 0).den (Ends (Try.f16.results.toList) (.d (.bool (decide (a = b))))) := by
    intro hlen
    refine WK.rec' (fun i => saS (a.map chD) (b.map chD) i) (fun i => i ≤ a.length ∧ a.take i = b.take i) (fun i => a.length - i) ?_ 0 ⟨Nat.zero_le _, rfl⟩
    rintro i ⟨hi, ht⟩ ih
    obtain ⟨x, hx⟩ := at_chg a i
    obtain ⟨y, hy⟩ := at_chg b i
    have hb2 : i < a.length → i < b.length := fun h => by omega
    have hxo : i < a.length → Chg.ok x := fun h => by rw [← hx h]; exact ha.2 _ (List.getElem_mem h)
    have hyo : i < a.length → Chg.ok y := fun h => by rw [← hy (hb2 h)]; exact hb.2 _ (List.getElem_mem (hb2 h))
    have hend : decide ((Nat.cast (R := Int) i) < (Nat.cast (R := Int) (a.map chD).length)) = false → decide (a = b) = true := fun h => by
      have e := ge_map h
      rw [List.take_of_length_le e, List.take_of_length_le (by omega)] at ht
      exact decide_eq_true ht
    have hno : i < a.length → x ≠ y → decide (a = b) = false := fun h hne => by
      refine decide_eq_false ?_
      rintro rfl
      exact hne ((hx h).symm.trans (hy h))
    by_cases c1 : x.t = y.t
    · by_cases c2 : x.k = y.k
      · by_cases c3 : x.o = y.o
        · skip
          rcases Bool.eq_false_or_eq_true (decide ((Nat.cast (R := Int) i) < (Nat.cast (R := Int) (a.map chD).length)) : Bool) with h14 | h14
          · skip
            rcases Bool.eq_false_or_eq_true (!decide (x.n = y.n) : Bool) with h69 | h69
            · skip
              exact WK.fin ok 1000 0 [(19, RV.iptr (DV.agg [DV.str x.1, DV.lst 3 (List.map vD x.2) false, DV.lst 3 (List.map vD x.3) false, DV.lst 3 (List.map vD x.4) false]) 0), (24, RV.iptr (DV.agg [DV.str y.1, DV.lst 3 (List.map vD y.2) false, DV.lst 3 (List.map vD y.3) false, DV.lst 3 (List.map vD y.4) false]) 0), (27, RV.d (DV.bool false)), (28, RV.d (DV.bool false)), (42, RV.d (DV.bool false)), (56, RV.d (DV.bool false)), (31, RV.iptr (DV.agg [DV.str x.1, DV.lst 3 (List.map vD x.2) false, DV.lst 3 (List.map vD x.3) false, DV.lst 3 (List.map vD x.4) false]) 0), (36, RV.iptr (DV.agg [DV.str y.1, DV.lst 3 (List.map vD y.2) false, DV.lst 3 (List.map vD y.3) false, DV.lst 3 (List.map vD y.4) false]) 0), (39, RV.d (DV.bool true)), (45, RV.iptr (DV.agg [DV.str x.1, DV.lst 3 (List.map vD x.2) false, DV.lst 3 (List.map vD x.3) false, DV.lst 3 (List.map vD x.4) false]) 0), (50, RV.iptr (DV.agg [DV.str y.1, DV.lst 3 (List.map vD y.2) false, DV.lst 3 (List.map vD y.3) false, DV.lst 3 (List.map vD y.4) false]) 0), (53, RV.d (DV.bool true)), (59, RV.iptr (DV.agg [DV.str x.1, DV.lst 3 (List.map vD x.2) false, DV.lst 3 (List.map vD x.3) false, DV.lst 3 (List.map vD x.4) false]) 0), (64, RV.iptr (DV.agg [DV.str y.1, DV.lst 3 (List.map vD y.2) false, DV.lst 3 (List.map vD y.3) false, DV.lst 3 (List.map vD y.4) false]) 0), (67, RV.d (DV.bool (decide (x.n = y.n)))), (16, RV.d (DV.int Go.IntKind.i64 (Nat.cast (R := Int) (i + 1)))), (14, RV.d (DV.bool true)), (69, RV.d (DV.bool true))] [decide (0 ≤ (Nat.cast (R := Int) i) ∧ (Nat.cast (R := Int) i) < (Nat.cast (R := Int) (a.map chD).length)), decide (0 ≤ (Nat.cast (R := Int) i) ∧ (Nat.cast (R := Int) i) < (Nat.cast (R := Int) (b.map chD).length)), decide (0 ≤ (Nat.cast (R := Int) i) ∧ (Nat.cast (R := Int) i) < (Nat.cast (R := Int) (a.map chD).length)), decide (0 ≤ (Nat.cast (R := Int) i) ∧ (Nat.cast (R := Int) i) < (Nat.cast (R := Int) (b.map chD).length)), isR (DV.lst 3 (List.map vD x.2) false), isR (DV.lst 3 (List.map vD y.2) false), decide (0 ≤ (Nat.cast (R := Int) i) ∧ (Nat.cast (R := Int) i) < (Nat.cast (R := Int) (a.map chD).length)), decide (0 ≤ (Nat.cast (R := Int) i) ∧ (Nat.cast (R := Int) i) < (Nat.cast (R := Int) (b.map chD).length)), isR (DV.lst 3 (List.map vD x.3) false), isR (DV.lst 3 (List.map vD y.3) false), decide (0 ≤ (Nat.cast (R := Int) i) ∧ (Nat.cast (R := Int) i) < (Nat.cast (R := Int) (a.map chD).length)), decide (0 ≤ (Nat.cast (R := Int) i) ∧ (Nat.cast (R := Int) i) < (Nat.cast (R := Int) (b.map chD).length)), isR (DV.lst 3 (List.map vD x.4) false), isR (DV.lst 3 (List.map vD y.4) false)] [(RV.d (DV.bool (decide ((Nat.cast (R := Int) i) < (Nat.cast (R := Int) (a.map chD).length)))), RV.d (DV.bool true)), (RV.iptr ((a.map chD).getD (Nat.cast (R := Int) i).toNat DV.nilp) 0, RV.iptr (DV.agg [DV.str x.1, DV.lst 3 (List.map vD x.2) false, DV.lst 3 (List.map vD x.3) false, DV.lst 3 (List.map vD x.4) false]) 0), (RV.iptr ((b.map chD).getD (Nat.cast (R := Int) i).toNat DV.nilp) 0, RV.iptr (DV.agg [DV.str y.1, DV.lst 3 (List.map vD y.2) false, DV.lst 3 (List.map vD y.3) false, DV.lst 3 (List.map vD y.4) false]) 0), (RV.d (DV.bool !x.1 == y.1), RV.d (DV.bool false)), (RV.d (DV.bool false), RV.d (DV.bool false)), (RV.iptr ((a.map chD).getD (Nat.cast (R := Int) i).toNat DV.nilp) 0, RV.iptr (DV.agg [DV.str x.1, DV.lst 3 (List.map vD x.2) false, DV.lst 3 (List.map vD x.3) false, DV.lst 3 (List.map vD x.4) false]) 0), (RV.iptr ((b.map chD).getD (Nat.cast (R := Int) i).toNat DV.nilp) 0, RV.iptr (DV.agg [DV.str y.1, DV.lst 3 (List.map vD y.2) false, DV.lst 3 (List.map vD y.3) false, DV.lst 3 (List.map vD y.4) false]) 0), (RV.d (DV.bool (decide (unR ((chD x).cells.getD 1 DV.nilp) = unR ((chD y).cells.getD 1 DV.nilp)))), RV.d (DV.bool true)), (RV.d (DV.bool false), RV.d (DV.bool false)), (RV.iptr ((a.map chD).getD (Nat.cast (R := Int) i).toNat DV.nilp) 0, RV.iptr (DV.agg [DV.str x.1, DV.lst 3 (List.map vD x.2) false, DV.lst 3 (List.map vD x.3) false, DV.lst 3 (List.map vD x.4) false]) 0), (RV.iptr ((b.map chD).getD (Nat.cast (R := Int) i).toNat DV.nilp) 0, RV.iptr (DV.agg [DV.str y.1, DV.lst 3 (List.map vD y.2) false, DV.lst 3 (List.map vD y.3) false, DV.lst 3 (List.map vD y.4) false]) 0), (RV.d (DV.bool (decide (unR ((chD x).cells.getD 2 DV.nilp) = unR ((chD y).cells.getD 2 DV.nilp)))), RV.d (DV.bool true)), (RV.d (DV.bool false), RV.d (DV.bool false)), (RV.iptr ((a.map chD).getD (Nat.cast (R := Int) i).toNat DV.nilp) 0, RV.iptr (DV.agg [DV.str x.1, DV.lst 3 (List.map vD x.2) false, DV.lst 3 (List.map vD x.3) false, DV.lst 3 (List.map vD x.4) false]) 0), (RV.iptr ((b.map chD).getD (Nat.cast (R := Int) i).toNat DV.nilp) 0, RV.iptr (DV.agg [DV.str y.1, DV.lst 3 (List.map vD y.2) false, DV.lst 3 (List.map vD y.3) false, DV.lst 3 (List.map vD y.4) false]) 0), (RV.d (DV.bool (decide (unR ((chD x).cells.getD 3 DV.nilp) = unR ((chD y).cells.getD 3 DV.nilp)))), RV.d (DV.bool (decide (x.n = y.n)))), (RV.d (DV.bool !decide (x.n = y.n)), RV.d (DV.bool true))] rfl (by kernel_rfl : runEnd (cfT t2) true _ 1000 0 _ _ (saS (a.map chD) (b.map chD) i) = some (RV.d (DV.bool false), [], _, _)) (by refine ⟨?_, ?_, ?_, ?_, ?_, ?_, ?_, ?_, ?_, ?_, ?_, ?_, ?_, ?_, trivial⟩ <;> (have hlt := lt_map h14; first | exact bd_map hlt | exact bd_map (hb2 hlt) | exact ok_k (hxo hlt) | exact ok_k (hyo hlt) | exact ok_o (hxo hlt) | exact ok_o (hyo hlt) | exact ok_n (hxo hlt) | exact ok_n (hyo hlt))) (by refine ⟨le_bool h14, ?_, ?_, ?_, ?_, ?_, ?_, ?_, ?_, ?_, ?_, ?_, ?_, ?_, ?_, ?_, le_bool h69, trivial⟩ <;> (have hlt := lt_map h14; first | exact ov_chg hlt (hx hlt) | exact ov_chg (hb2 hlt) (hy (hb2 hlt)) | exact ov_Eb (decide_eq_true (by assumption)) | exact ov_Eb (decide_eq_false (by assumption)) | exact ov_E x.n y.n | exact le_bool rfl | exact ov_succ (by omega) | exact le_bool rfl | exact le_bool (by simpa using c1))) ⟨by first | (rw [hend h14]; done) | first | (rw [hno (lt_map h14) (fun e => c1 (by rw [e]))]; done) | (rw [hno (lt_map h14) (fun e => c2 (by rw [e]))]; done) | (rw [hno (lt_map h14) (fun e => c3 (by rw [e]))]; done) | (have c4 : x.n ≠ y.n := (by simpa using h69); rw [hno (lt_map h14) (fun e => c4 (by rw [e]))]), rfl⟩
            · skip
              refine WK.segA ok 1000 0 [(19, RV.iptr (DV.agg [DV.str x.1, DV.lst 3 (List.map vD x.2) false, DV.lst 3 (List.map vD x.3) false, DV.lst 3 (List.map vD x.4) false]) 0), (24, RV.iptr (DV.agg [DV.str y.1, DV.lst 3 (List.map vD y.2) false, DV.lst 3 (List.map vD y.3) false, DV.lst 3 (List.map vD y.4) false]) 0), (27, RV.d (DV.bool false)), (28, RV.d (DV.bool false)), (42, RV.d (DV.bool false)), (56, RV.d (DV.bool false)), (31, RV.iptr (DV.agg [DV.str x.1, DV.lst 3 (List.map vD x.2) false, DV.lst 3 (List.map vD x.3) false, DV.lst 3 (List.map vD x.4) false]) 0), (36, RV.iptr (DV.agg [DV.str y.1, DV.lst 3 (List.map vD y.2) false, DV.lst 3 (List.map vD y.3) false, DV.lst 3 (List.map vD y.4) false]) 0), (39, RV.d (DV.bool true)), (45, RV.iptr (DV.agg [DV.str x.1, DV.lst 3 (List.map vD x.2) false, DV.lst 3 (List.map vD x.3) false, DV.lst 3 (List.map vD x.4) false]) 0), (50, RV.iptr (DV.agg [DV.str y.1, DV.lst 3 (List.map vD y.2) false, DV.lst 3 (List.map vD y.3) false, DV.lst 3 (List.map vD y.4) false]) 0), (53, RV.d (DV.bool true)), (59, RV.iptr (DV.agg [DV.str x.1, DV.lst 3 (List.map vD x.2) false, DV.lst 3 (List.map vD x.3) false, DV.lst 3 (List.map vD x.4) false]) 0), (64, RV.iptr (DV.agg [DV.str y.1, DV.lst 3 (List.map vD y.2) false, DV.lst 3 (List.map vD y.3) false, DV.lst 3 (List.map vD y.4) false]) 0), (67, RV.d (DV.bool (decide (x.n = y.n)))), (16, RV.d (DV.int Go.IntKind.i64 (Nat.cast (R := Int) (i + 1)))), (14, RV.d (DV.bool true)), (69, RV.d (DV.bool false))] [] [0, 1, 5] [decide (0 ≤ (Nat.cast (R := Int) i) ∧ (Nat.cast (R := Int) i) < (Nat.cast (R := Int) (a.map chD).length)), decide (0 ≤ (Nat.cast (R := Int) i) ∧ (Nat.cast (R := Int) i) < (Nat.cast (R := Int) (b.map chD).length)), decide (0 ≤ (Nat.cast (R := Int) i) ∧ (Nat.cast (R := Int) i) < (Nat.cast (R := Int) (a.map chD).length)), decide (0 ≤ (Nat.cast (R := Int) i) ∧ (Nat.cast (R := Int) i) < (Nat.cast (R := Int) (b.map chD).length)), isR (DV.lst 3 (List.map vD x.2) false), isR (DV.lst 3 (List.map vD y.2) false), decide (0 ≤ (Nat.cast (R := Int) i) ∧ (Nat.cast (R := Int) i) < (Nat.cast (R := Int) (a.map chD).length)), decide (0 ≤ (Nat.cast (R := Int) i) ∧ (Nat.cast (R := Int) i) < (Nat.cast (R := Int) (b.map chD).length)), isR (DV.lst 3 (List.map vD x.3) false), isR (DV.lst 3 (List.map vD y.3) false), decide (0 ≤ (Nat.cast (R := Int) i) ∧ (Nat.cast (R := Int) i) < (Nat.cast (R := Int) (a.map chD).length)), decide (0 ≤ (Nat.cast (R := Int) i) ∧ (Nat.cast (R := Int) i) < (Nat.cast (R := Int) (b.map chD).length)), isR (DV.lst 3 (List.map vD x.4) false), isR (DV.lst 3 (List.map vD y.4) false)] [(RV.d (DV.bool (decide ((Nat.cast (R := Int) i) < (Nat.cast (R := Int) (a.map chD).length)))), RV.d (DV.bool true)), (RV.iptr ((a.map chD).getD (Nat.cast (R := Int) i).toNat DV.nilp) 0, RV.iptr (DV.agg [DV.str x.1, DV.lst 3 (List.map vD x.2) false, DV.lst 3 (List.map vD x.3) false, DV.lst 3 (List.map vD x.4) false]) 0), (RV.iptr ((b.map chD).getD (Nat.cast (R := Int) i).toNat DV.nilp) 0, RV.iptr (DV.agg [DV.str y.1, DV.lst 3 (List.map vD y.2) false, DV.lst 3 (List.map vD y.3) false, DV.lst 3 (List.map vD y.4) false]) 0), (RV.d (DV.bool !x.1 == y.1), RV.d (DV.bool false)), (RV.d (DV.bool false), RV.d (DV.bool false)), (RV.iptr ((a.map chD).getD (Nat.cast (R := Int) i).toNat DV.nilp) 0, RV.iptr (DV.agg [DV.str x.1, DV.lst 3 (List.map vD x.2) false, DV.lst 3 (List.map vD x.3) false, DV.lst 3 (List.map vD x.4) false]) 0), (RV.iptr ((b.map chD).getD (Nat.cast (R := Int) i).toNat DV.nilp) 0, RV.iptr (DV.agg [DV.str y.1, DV.lst 3 (List.map vD y.2) false, DV.lst 3 (List.map vD y.3) false, DV.lst 3 (List.map vD y.4) false]) 0), (RV.d (DV.bool (decide (unR ((chD x).cells.getD 1 DV.nilp) = unR ((chD y).cells.getD 1 DV.nilp)))), RV.d (DV.bool true)), (RV.d (DV.bool false), RV.d (DV.bool false)), (RV.iptr ((a.map chD).getD (Nat.cast (R := Int) i).toNat DV.nilp) 0, RV.iptr (DV.agg [DV.str x.1, DV.lst 3 (List.map vD x.2) false, DV.lst 3 (List.map vD x.3) false, DV.lst 3 (List.map vD x.4) false]) 0), (RV.iptr ((b.map chD).getD (Nat.cast (R := Int) i).toNat DV.nilp) 0, RV.iptr (DV.agg [DV.str y.1, DV.lst 3 (List.map vD y.2) false, DV.lst 3 (List.map vD y.3) false, DV.lst 3 (List.map vD y.4) false]) 0), (RV.d (DV.bool (decide (unR ((chD x).cells.getD 2 DV.nilp) = unR ((chD y).cells.getD 2 DV.nilp)))), RV.d (DV.bool true)), (RV.d (DV.bool false), RV.d (DV.bool false)), (RV.iptr ((a.map chD).getD (Nat.cast (R := Int) i).toNat DV.nilp) 0, RV.iptr (DV.agg [DV.str x.1, DV.lst 3 (List.map vD x.2) false, DV.lst 3 (List.map vD x.3) false, DV.lst 3 (List.map vD x.4) false]) 0), (RV.iptr ((b.map chD).getD (Nat.cast (R := Int) i).toNat DV.nilp) 0, RV.iptr (DV.agg [DV.str y.1, DV.lst 3 (List.map vD y.2) false, DV.lst 3 (List.map vD y.3) false, DV.lst 3 (List.map vD y.4) false]) 0), (RV.d (DV.bool (decide (unR ((chD x).cells.getD 3 DV.nilp) = unR ((chD y).cells.getD 3 DV.nilp)))), RV.d (DV.bool (decide (x.n = y.n)))), (RV.d (DV.bool !decide (x.n = y.n)), RV.d (DV.bool false)), (RV.d (DV.int Go.IntKind.i64 (Go.IntKind.i64.wrap ((Nat.cast (R := Int) i) + 1))), RV.d (DV.int Go.IntKind.i64 (Nat.cast (R := Int) (i + 1))))] rfl (by kernel_rfl : runSegA (cfT t2) 1000 0 _ _ _ _ (saS (a.map chD) (b.map chD) i) = some (stackAt saC 0, saS (a.map chD) (b.map chD) (i + 1), _, _)) (by refine ⟨?_, ?_, ?_, ?_, ?_, ?_, ?_, ?_, ?_, ?_, ?_, ?_, ?_, ?_, trivial⟩ <;> (have hlt := lt_map h14; first | exact bd_map hlt | exact bd_map (hb2 hlt) | exact ok_k (hxo hlt) | exact ok_k (hyo hlt) | exact ok_o (hxo hlt) | exact ok_o (hyo hlt) | exact ok_n (hxo hlt) | exact ok_n (hyo hlt))) (by refine ⟨le_bool h14, ?_, ?_, ?_, ?_, ?_, ?_, ?_, ?_, ?_, ?_, ?_, ?_, ?_, ?_, ?_, le_bool h69, ?_, trivial⟩ <;> (have hlt := lt_map h14; first | exact ov_chg hlt (hx hlt) | exact ov_chg (hb2 hlt) (hy (hb2 hlt)) | exact ov_Eb (decide_eq_true (by assumption)) | exact ov_Eb (decide_eq_false (by assumption)) | exact ov_E x.n y.n | exact le_bool rfl | exact ov_succ (by omega) | exact le_bool rfl | exact le_bool (by simpa using c1))) ?_
              have hl := lt_map h14
              have c4 : x.n = y.n := (by simpa using h69)
              refine ih (i + 1) ⟨hl, ?_⟩ (by omega)
              rw [List.take_add_one, List.take_add_one, ht, List.getElem?_eq_getElem hl, List.getElem?_eq_getElem (hb2 hl), hx hl, hy (hb2 hl), chg_ext c1 c2 c3 c4]
          · skip
            exact WK.fin ok 1000 0 [(19, RV.iptr (DV.agg [DV.str x.1, DV.lst 3 (List.map vD x.2) false, DV.lst 3 (List.map vD x.3) false, DV.lst 3 (List.map vD x.4) false]) 0), (24, RV.iptr (DV.agg [DV.str y.1, DV.lst 3 (List.map vD y.2) false, DV.lst 3 (List.map vD y.3) false, DV.lst 3 (List.map vD y.4) false]) 0), (27, RV.d (DV.bool false)), (28, RV.d (DV.bool false)), (42, RV.d (DV.bool false)), (56, RV.d (DV.bool false)), (31, RV.iptr (DV.agg [DV.str x.1, DV.lst 3 (List.map vD x.2) false, DV.lst 3 (List.map vD x.3) false, DV.lst 3 (List.map vD x.4) false]) 0), (36, RV.iptr (DV.agg [DV.str y.1, DV.lst 3 (List.map vD y.2) false, DV.lst 3 (List.map vD y.3) false, DV.lst 3 (List.map vD y.4) false]) 0), (39, RV.d (DV.bool true)), (45, RV.iptr (DV.agg [DV.str x.1, DV.lst 3 (List.map vD x.2) false, DV.lst 3 (List.map vD x.3) false, DV.lst 3 (List.map vD x.4) false]) 0), (50, RV.iptr (DV.agg [DV.str y.1, DV.lst 3 (List.map vD y.2) false, DV.lst 3 (List.map vD y.3) false, DV.lst 3 (List.map vD y.4) false]) 0), (53, RV.d (DV.bool true)), (59, RV.iptr (DV.agg [DV.str x.1, DV.lst 3 (List.map vD x.2) false, DV.lst 3 (List.map vD x.3) false, DV.lst 3 (List.map vD x.4) false]) 0), (64, RV.iptr (DV.agg [DV.str y.1, DV.lst 3 (List.map vD y.2) false, DV.lst 3 (List.map vD y.3) false, DV.lst 3 (List.map vD y.4) false]) 0), (67, RV.d (DV.bool (decide (x.n = y.n)))), (16, RV.d (DV.int Go.IntKind.i64 (Nat.cast (R := Int) (i + 1)))), (14, RV.d (DV.bool false))] [] [(RV.d (DV.bool (decide ((Nat.cast (R := Int) i) < (Nat.cast (R := Int) (a.map chD).length)))), RV.d (DV.bool false))] rfl (by kernel_rfl : runEnd (cfT t2) true _ 1000 0 _ _ (saS (a.map chD) (b.map chD) i) = some (RV.d (DV.bool true), [], _, _)) trivial ⟨le_bool h14, trivial⟩ ⟨by first | (rw [hend h14]; done) | first | (rw [hno (lt_map h14) (fun e => c1 (by rw [e]))]; done) | (rw [hno (lt_map h14) (fun e => c2 (by rw [e]))]; done) | (rw [hno (lt_map h14) (fun e => c3 (by rw [e]))]; done) | (have c4 : x.n ≠ y.n := (by simpa using h69); rw [hno (lt_map h14) (fun e => c4 (by rw [e]))]), rfl⟩
        · skip
          rcases Bool.eq_false_or_eq_true (decide ((Nat.cast (R := Int) i) < (Nat.cast (R := Int) (a.map chD).length)) : Bool) with h14 | h14
          · skip
            exact WK.fin ok 1000 0 [(19, RV.iptr (DV.agg [DV.str x.1, DV.lst 3 (List.map vD x.2) false, DV.lst 3 (List.map vD x.3) false, DV.lst 3 (List.map vD x.4) false]) 0), (24, RV.iptr (DV.agg [DV.str y.1, DV.lst 3 (List.map vD y.2) false, DV.lst 3 (List.map vD y.3) false, DV.lst 3 (List.map vD y.4) false]) 0), (27, RV.d (DV.bool false)), (28, RV.d (DV.bool false)), (42, RV.d (DV.bool false)), (56, RV.d (DV.bool true)), (69, RV.d (DV.bool true)), (31, RV.iptr (DV.agg [DV.str x.1, DV.lst 3 (List.map vD x.2) false, DV.lst 3 (List.map vD x.3) false, DV.lst 3 (List.map vD x.4) false]) 0), (36, RV.iptr (DV.agg [DV.str y.1, DV.lst 3 (List.map vD y.2) false, DV.lst 3 (List.map vD y.3) false, DV.lst 3 (List.map vD y.4) false]) 0), (39, RV.d (DV.bool true)), (45, RV.iptr (DV.agg [DV.str x.1, DV.lst 3 (List.map vD x.2) false, DV.lst 3 (List.map vD x.3) false, DV.lst 3 (List.map vD x.4) false]) 0), (50, RV.iptr (DV.agg [DV.str y.1, DV.lst 3 (List.map vD y.2) false, DV.lst 3 (List.map vD y.3) false, DV.lst 3 (List.map vD y.4) false]) 0), (53, RV.d (DV.bool false)), (14, RV.d (DV.bool true))] [decide (0 ≤ (Nat.cast (R := Int) i) ∧ (Nat.cast (R := Int) i) < (Nat.cast (R := Int) (a.map chD).length)), decide (0 ≤ (Nat.cast (R := Int) i) ∧ (Nat.cast (R := Int) i) < (Nat.cast (R := Int) (b.map chD).length)), decide (0 ≤ (Nat.cast (R := Int) i) ∧ (Nat.cast (R := Int) i) < (Nat.cast (R := Int) (a.map chD).length)), decide (0 ≤ (Nat.cast (R := Int) i) ∧ (Nat.cast (R := Int) i) < (Nat.cast (R := Int) (b.map chD).length)), isR (DV.lst 3 (List.map vD x.2) false), isR (DV.lst 3 (List.map vD y.2) false), decide (0 ≤ (Nat.cast (R := Int) i) ∧ (Nat.cast (R := Int) i) < (Nat.cast (R := Int) (a.map chD).length)), decide (0 ≤ (Nat.cast (R := Int) i) ∧ (Nat.cast (R := Int) i) < (Nat.cast (R := Int) (b.map chD).length)), isR (DV.lst 3 (List.map vD x.3) false), isR (DV.lst 3 (List.map vD y.3) false)] [(RV.d (DV.bool (decide ((Nat.cast (R := Int) i) < (Nat.cast (R := Int) (a.map chD).length)))), RV.d (DV.bool true)), (RV.iptr ((a.map chD).getD (Nat.cast (R := Int) i).toNat DV.nilp) 0, RV.iptr (DV.agg [DV.str x.1, DV.lst 3 (List.map vD x.2) false, DV.lst 3 (List.map vD x.3) false, DV.lst 3 (List.map vD x.4) false]) 0), (RV.iptr ((b.map chD).getD (Nat.cast (R := Int) i).toNat DV.nilp) 0, RV.iptr (DV.agg [DV.str y.1, DV.lst 3 (List.map vD y.2) false, DV.lst 3 (List.map vD y.3) false, DV.lst 3 (List.map vD y.4) false]) 0), (RV.d (DV.bool !x.1 == y.1), RV.d (DV.bool false)), (RV.d (DV.bool false), RV.d (DV.bool false)), (RV.iptr ((a.map chD).getD (Nat.cast (R := Int) i).toNat DV.nilp) 0, RV.iptr (DV.agg [DV.str x.1, DV.lst 3 (List.map vD x.2) false, DV.lst 3 (List.map vD x.3) false, DV.lst 3 (List.map vD x.4) false]) 0), (RV.iptr ((b.map chD).getD (Nat.cast (R := Int) i).toNat DV.nilp) 0, RV.iptr (DV.agg [DV.str y.1, DV.lst 3 (List.map vD y.2) false, DV.lst 3 (List.map vD y.3) false, DV.lst 3 (List.map vD y.4) false]) 0), (RV.d (DV.bool (decide (unR ((chD x).cells.getD 1 DV.nilp) = unR ((chD y).cells.getD 1 DV.nilp)))), RV.d (DV.bool true)), (RV.d (DV.bool false), RV.d (DV.bool false)), (RV.iptr ((a.map chD).getD (Nat.cast (R := Int) i).toNat DV.nilp) 0, RV.iptr (DV.agg [DV.str x.1, DV.lst 3 (List.map vD x.2) false, DV.lst 3 (List.map vD x.3) false, DV.lst 3 (List.map vD x.4) false]) 0), (RV.iptr ((b.map chD).getD (Nat.cast (R := Int) i).toNat DV.nilp) 0, RV.iptr (DV.agg [DV.str y.1, DV.lst 3 (List.map vD y.2) false, DV.lst 3 (List.map vD y.3) false, DV.lst 3 (List.map vD y.4) false]) 0), (RV.d (DV.bool (decide (unR ((chD x).cells.getD 2 DV.nilp) = unR ((chD y).cells.getD 2 DV.nilp)))), RV.d (DV.bool false)), (RV.d (DV.bool true), RV.d (DV.bool true)), (RV.d (DV.bool true), RV.d (DV.bool true))] rfl (by kernel_rfl : runEnd (cfT t2) true _ 1000 0 _ _ (saS (a.map chD) (b.map chD) i) = some (RV.d (DV.bool false), [], _, _)) (by refine ⟨?_, ?_, ?_, ?_, ?_, ?_, ?_, ?_, ?_, ?_, trivial⟩ <;> (have hlt := lt_map h14; first | exact bd_map hlt | exact bd_map (hb2 hlt) | exact ok_k (hxo hlt) | exact ok_k (hyo hlt) | exact ok_o (hxo hlt) | exact ok_o (hyo hlt) | exact ok_n (hxo hlt) | exact ok_n (hyo hlt))) (by refine ⟨le_bool h14, ?_, ?_, ?_, ?_, ?_, ?_, ?_, ?_, ?_, ?_, ?_, ?_, ?_, trivial⟩ <;> (have hlt := lt_map h14; first | exact ov_chg hlt (hx hlt) | exact ov_chg (hb2 hlt) (hy (hb2 hlt)) | exact ov_Eb (decide_eq_true (by assumption)) | exact ov_Eb (decide_eq_false (by assumption)) | exact ov_E x.n y.n | exact le_bool rfl | exact ov_succ (by omega) | exact le_bool rfl | exact le_bool (by simpa using c1))) ⟨by first | (rw [hend h14]; done) | first | (rw [hno (lt_map h14) (fun e => c1 (by rw [e]))]; done) | (rw [hno (lt_map h14) (fun e => c2 (by rw [e]))]; done) | (rw [hno (lt_map h14) (fun e => c3 (by rw [e]))]; done) | (have c4 : x.n ≠ y.n := (by simpa using h69); rw [hno (lt_map h14) (fun e => c4 (by rw [e]))]), rfl⟩
          · skip
            exact WK.fin ok 1000 0 [(19, RV.iptr (DV.agg [DV.str x.1, DV.lst 3 (List.map vD x.2) false, DV.lst 3 (List.map vD x.3) false, DV.lst 3 (List.map vD x.4) false]) 0), (24, RV.iptr (DV.agg [DV.str y.1, DV.lst 3 (List.map vD y.2) false, DV.lst 3 (List.map vD y.3) false, DV.lst 3 (List.map vD y.4) false]) 0), (27, RV.d (DV.bool false)), (28, RV.d (DV.bool false)), (42, RV.d (DV.bool false)), (56, RV.d (DV.bool true)), (69, RV.d (DV.bool true)), (31, RV.iptr (DV.agg [DV.str x.1, DV.lst 3 (List.map vD x.2) false, DV.lst 3 (List.map vD x.3) false, DV.lst 3 (List.map vD x.4) false]) 0), (36, RV.iptr (DV.agg [DV.str y.1, DV.lst 3 (List.map vD y.2) false, DV.lst 3 (List.map vD y.3) false, DV.lst 3 (List.map vD y.4) false]) 0), (39, RV.d (DV.bool true)), (45, RV.iptr (DV.agg [DV.str x.1, DV.lst 3 (List.map vD x.2) false, DV.lst 3 (List.map vD x.3) false, DV.lst 3 (List.map vD x.4) false]) 0), (50, RV.iptr (DV.agg [DV.str y.1, DV.lst 3 (List.map vD y.2) false, DV.lst 3 (List.map vD y.3) false, DV.lst 3 (List.map vD y.4) false]) 0), (53, RV.d (DV.bool false)), (14, RV.d (DV.bool false))] [] [(RV.d (DV.bool (decide ((Nat.cast (R := Int) i) < (Nat.cast (R := Int) (a.map chD).length)))), RV.d (DV.bool false))] rfl (by kernel_rfl : runEnd (cfT t2) true _ 1000 0 _ _ (saS (a.map chD) (b.map chD) i) = some (RV.d (DV.bool true), [], _, _)) trivial ⟨le_bool h14, trivial⟩ ⟨by first | (rw [hend h14]; done) | first | (rw [hno (lt_map h14) (fun e => c1 (by rw [e]))]; done) | (rw [hno (lt_map h14) (fun e => c2 (by rw [e]))]; done) | (rw [hno (lt_map h14) (fun e => c3 (by rw [e]))]; done) | (have c4 : x.n ≠ y.n := (by simpa using h69); rw [hno (lt_map h14) (fun e => c4 (by rw [e]))]), rfl⟩
      · skip
        rcases Bool.eq_false_or_eq_true (decide ((Nat.cast (R := Int) i) < (Nat.cast (R := Int) (a.map chD).length)) : Bool) with h14 | h14
        · skip
          exact WK.fin ok 1000 0 [(19, RV.iptr (DV.agg [DV.str x.1, DV.lst 3 (List.map vD x.2) false, DV.lst 3 (List.map vD x.3) false, DV.lst 3 (List.map vD x.4) false]) 0), (24, RV.iptr (DV.agg [DV.str y.1, DV.lst 3 (List.map vD y.2) false, DV.lst 3 (List.map vD y.3) false, DV.lst 3 (List.map vD y.4) false]) 0), (27, RV.d (DV.bool false)), (28, RV.d (DV.bool false)), (42, RV.d (DV.bool true)), (56, RV.d (DV.bool true)), (69, RV.d (DV.bool true)), (31, RV.iptr (DV.agg [DV.str x.1, DV.lst 3 (List.map vD x.2) false, DV.lst 3 (List.map vD x.3) false, DV.lst 3 (List.map vD x.4) false]) 0), (36, RV.iptr (DV.agg [DV.str y.1, DV.lst 3 (List.map vD y.2) false, DV.lst 3 (List.map vD y.3) false, DV.lst 3 (List.map vD y.4) false]) 0), (39, RV.d (DV.bool false)), (14, RV.d (DV.bool true))] [decide (0 ≤ (Nat.cast (R := Int) i) ∧ (Nat.cast (R := Int) i) < (Nat.cast (R := Int) (a.map chD).length)), decide (0 ≤ (Nat.cast (R := Int) i) ∧ (Nat.cast (R := Int) i) < (Nat.cast (R := Int) (b.map chD).length)), decide (0 ≤ (Nat.cast (R := Int) i) ∧ (Nat.cast (R := Int) i) < (Nat.cast (R := Int) (a.map chD).length)), decide (0 ≤ (Nat.cast (R := Int) i) ∧ (Nat.cast (R := Int) i) < (Nat.cast (R := Int) (b.map chD).length)), isR (DV.lst 3 (List.map vD x.2) false), isR (DV.lst 3 (List.map vD y.2) false)] [(RV.d (DV.bool (decide ((Nat.cast (R := Int) i) < (Nat.cast (R := Int) (a.map chD).length)))), RV.d (DV.bool true)), (RV.iptr ((a.map chD).getD (Nat.cast (R := Int) i).toNat DV.nilp) 0, RV.iptr (DV.agg [DV.str x.1, DV.lst 3 (List.map vD x.2) false, DV.lst 3 (List.map vD x.3) false, DV.lst 3 (List.map vD x.4) false]) 0), (RV.iptr ((b.map chD).getD (Nat.cast (R := Int) i).toNat DV.nilp) 0, RV.iptr (DV.agg [DV.str y.1, DV.lst 3 (List.map vD y.2) false, DV.lst 3 (List.map vD y.3) false, DV.lst 3 (List.map vD y.4) false]) 0), (RV.d (DV.bool !x.1 == y.1), RV.d (DV.bool false)), (RV.d (DV.bool false), RV.d (DV.bool false)), (RV.iptr ((a.map chD).getD (Nat.cast (R := Int) i).toNat DV.nilp) 0, RV.iptr (DV.agg [DV.str x.1, DV.lst 3 (List.map vD x.2) false, DV.lst 3 (List.map vD x.3) false, DV.lst 3 (List.map vD x.4) false]) 0), (RV.iptr ((b.map chD).getD (Nat.cast (R := Int) i).toNat DV.nilp) 0, RV.iptr (DV.agg [DV.str y.1, DV.lst 3 (List.map vD y.2) false, DV.lst 3 (List.map vD y.3) false, DV.lst 3 (List.map vD y.4) false]) 0), (RV.d (DV.bool (decide (unR ((chD x).cells.getD 1 DV.nilp) = unR ((chD y).cells.getD 1 DV.nilp)))), RV.d (DV.bool false)), (RV.d (DV.bool true), RV.d (DV.bool true)), (RV.d (DV.bool true), RV.d (DV.bool true)), (RV.d (DV.bool true), RV.d (DV.bool true))] rfl (by kernel_rfl : runEnd (cfT t2) true _ 1000 0 _ _ (saS (a.map chD) (b.map chD) i) = some (RV.d (DV.bool false), [], _, _)) (by refine ⟨?_, ?_, ?_, ?_, ?_, ?_, trivial⟩ <;> (have hlt := lt_map h14; first | exact bd_map hlt | exact bd_map (hb2 hlt) | exact ok_k (hxo hlt) | exact ok_k (hyo hlt) | exact ok_o (hxo hlt) | exact ok_o (hyo hlt) | exact ok_n (hxo hlt) | exact ok_n (hyo hlt))) (by refine ⟨le_bool h14, ?_, ?_, ?_, ?_, ?_, ?_, ?_, ?_, ?_, ?_, trivial⟩ <;> (have hlt := lt_map h14; first | exact ov_chg hlt (hx hlt) | exact ov_chg (hb2 hlt) (hy (hb2 hlt)) | exact ov_Eb (decide_eq_true (by assumption)) | exact ov_Eb (decide_eq_false (by assumption)) | exact ov_E x.n y.n | exact le_bool rfl | exact ov_succ (by omega) | exact le_bool rfl | exact le_bool (by simpa using c1))) ⟨by first | (rw [hend h14]; done) | first | (rw [hno (lt_map h14) (fun e => c1 (by rw [e]))]; done) | (rw [hno (lt_map h14) (fun e => c2 (by rw [e]))]; done) | (rw [hno (lt_map h14) (fun e => c3 (by rw [e]))]; done) | (have c4 : x.n ≠ y.n := (by simpa using h69); rw [hno (lt_map h14) (fun e => c4 (by rw [e]))]), rfl⟩
        · skip
          exact WK.fin ok 1000 0 [(19, RV.iptr (DV.agg [DV.str x.1, DV.lst 3 (List.map vD x.2) false, DV.lst 3 (List.map vD x.3) false, DV.lst 3 (List.map vD x.4) false]) 0), (24, RV.iptr (DV.agg [DV.str y.1, DV.lst 3 (List.map vD y.2) false, DV.lst 3 (List.map vD y.3) false, DV.lst 3 (List.map vD y.4) false]) 0), (27, RV.d (DV.bool false)), (28, RV.d (DV.bool false)), (42, RV.d (DV.bool true)), (56, RV.d (DV.bool true)), (69, RV.d (DV.bool true)), (31, RV.iptr (DV.agg [DV.str x.1, DV.lst 3 (List.map vD x.2) false, DV.lst 3 (List.map vD x.3) false, DV.lst 3 (List.map vD x.4) false]) 0), (36, RV.iptr (DV.agg [DV.str y.1, DV.lst 3 (List.map vD y.2) false, DV.lst 3 (List.map vD y.3) false, DV.lst 3 (List.map vD y.4) false]) 0), (39, RV.d (DV.bool false)), (14, RV.d (DV.bool false))] [] [(RV.d (DV.bool (decide ((Nat.cast (R := Int) i) < (Nat.cast (R := Int) (a.map chD).length)))), RV.d (DV.bool false))] rfl (by kernel_rfl : runEnd (cfT t2) true _ 1000 0 _ _ (saS (a.map chD) (b.map chD) i) = some (RV.d (DV.bool true), [], _, _)) trivial ⟨le_bool h14, trivial⟩ ⟨by first | (rw [hend h14]; done) | first | (rw [hno (lt_map h14) (fun e => c1 (by rw [e]))]; done) | (rw [hno (lt_map h14) (fun e => c2 (by rw [e]))]; done) | (rw [hno (lt_map h14) (fun e => c3 (by rw [e]))]; done) | (have c4 : x.n ≠ y.n := (by simpa using h69); rw [hno (lt_map h14) (fun e => c4 (by rw [e]))]), rfl⟩
    · skip
      rcases Bool.eq_false_or_eq_true (decide ((Nat.cast (R := Int) i) < (Nat.cast (R := Int) (a.map chD).length)) : Bool) with h14 | h14
      · skip
        exact WK.fin ok 1000 0 [(19, RV.iptr (DV.agg [DV.str x.1, DV.lst 3 (List.map vD x.2) false, DV.lst 3 (List.map vD x.3) false, DV.lst 3 (List.map vD x.4) false]) 0), (24, RV.iptr (DV.agg [DV.str y.1, DV.lst 3 (List.map vD y.2) false, DV.lst 3 (List.map vD y.3) false, DV.lst 3 (List.map vD y.4) false]) 0), (27, RV.d (DV.bool true)), (28, RV.d (DV.bool true)), (42, RV.d (DV.bool true)), (56, RV.d (DV.bool true)), (69, RV.d (DV.bool true)), (14, RV.d (DV.bool true))] [decide (0 ≤ (Nat.cast (R := Int) i) ∧ (Nat.cast (R := Int) i) < (Nat.cast (R := Int) (a.map chD).length)), decide (0 ≤ (Nat.cast (R := Int) i) ∧ (Nat.cast (R := Int) i) < (Nat.cast (R := Int) (b.map chD).length))] [(RV.d (DV.bool (decide ((Nat.cast (R := Int) i) < (Nat.cast (R := Int) (a.map chD).length)))), RV.d (DV.bool true)), (RV.iptr ((a.map chD).getD (Nat.cast (R := Int) i).toNat DV.nilp) 0, RV.iptr (DV.agg [DV.str x.1, DV.lst 3 (List.map vD x.2) false, DV.lst 3 (List.map vD x.3) false, DV.lst 3 (List.map vD x.4) false]) 0), (RV.iptr ((b.map chD).getD (Nat.cast (R := Int) i).toNat DV.nilp) 0, RV.iptr (DV.agg [DV.str y.1, DV.lst 3 (List.map vD y.2) false, DV.lst 3 (List.map vD y.3) false, DV.lst 3 (List.map vD y.4) false]) 0), (RV.d (DV.bool !x.1 == y.1), RV.d (DV.bool true)), (RV.d (DV.bool true), RV.d (DV.bool true)), (RV.d (DV.bool true), RV.d (DV.bool true)), (RV.d (DV.bool true), RV.d (DV.bool true)), (RV.d (DV.bool true), RV.d (DV.bool true))] rfl (by kernel_rfl : runEnd (cfT t2) true _ 1000 0 _ _ (saS (a.map chD) (b.map chD) i) = some (RV.d (DV.bool false), [], _, _)) (by refine ⟨?_, ?_, trivial⟩ <;> (have hlt := lt_map h14; first | exact bd_map hlt | exact bd_map (hb2 hlt) | exact ok_k (hxo hlt) | exact ok_k (hyo hlt) | exact ok_o (hxo hlt) | exact ok_o (hyo hlt) | exact ok_n (hxo hlt) | exact ok_n (hyo hlt))) (by refine ⟨le_bool h14, ?_, ?_, ?_, ?_, ?_, ?_, ?_, trivial⟩ <;> (have hlt := lt_map h14; first | exact ov_chg hlt (hx hlt) | exact ov_chg (hb2 hlt) (hy (hb2 hlt)) | exact ov_Eb (decide_eq_true (by assumption)) | exact ov_Eb (decide_eq_false (by assumption)) | exact ov_E x.n y.n | exact le_bool rfl | exact ov_succ (by omega) | exact le_bool rfl | exact le_bool (by simpa using c1))) ⟨by first | (rw [hend h14]; done) | first | (rw [hno (lt_map h14) (fun e => c1 (by rw [e]))]; done) | (rw [hno (lt_map h14) (fun e => c2 (by rw [e]))]; done) | (rw [hno (lt_map h14) (fun e => c3 (by rw [e]))]; done) | (have c4 : x.n ≠ y.n := (by simpa using h69); rw [hno (lt_map h14) (fun e => c4 (by rw [e]))]), rfl⟩
      · skip
        exact WK.fin ok 1000 0 [(19, RV.iptr (DV.agg [DV.str x.1, DV.lst 3 (List.map vD x.2) false, DV.lst 3 (List.map vD x.3) false, DV.lst 3 (List.map vD x.4) false]) 0), (24, RV.iptr (DV.agg [DV.str y.1, DV.lst 3 (List.map vD y.2) false, DV.lst 3 (List.map vD y.3) false, DV.lst 3 (List.map vD y.4) false]) 0), (27, RV.d (DV.bool true)), (28, RV.d (DV.bool true)), (42, RV.d (DV.bool true)), (56, RV.d (DV.bool true)), (69, RV.d (DV.bool true)), (14, RV.d (DV.bool false))] [] [(RV.d (DV.bool (decide ((Nat.cast (R := Int) i) < (Nat.cast (R := Int) (a.map chD).length)))), RV.d (DV.bool false))] rfl (by kernel_rfl : runEnd (cfT t2) true _ 1000 0 _ _ (saS (a.map chD) (b.map chD) i) = some (RV.d (DV.bool true), [], _, _)) trivial ⟨le_bool h14, trivial⟩ ⟨by first | (rw [hend h14]; done) | first | (rw [hno (lt_map h14) (fun e => c1 (by rw [e]))]; done) | (rw [hno (lt_map h14) (fun e => c2 (by rw [e]))]; done) | (rw [hno (lt_map h14) (fun e => c3 (by rw [e]))]; done) | (have c4 : x.n ≠ y.n := (by simpa using h69); rw [hno (lt_map h14) (fun e => c4 (by rw [e]))]), rfl⟩
  rcases Bool.eq_false_or_eq_true ((Nat.cast (R := Int) (a.map chD).length) != (Nat.cast (R := Int) (b.map chD).length) : Bool) with h10 | h10
  · skip
    exact WK.fin ok 1000 0 [(10, RV.d (DV.bool true))] [] [(RV.d (DV.bool ((Nat.cast (R := Int) (a.map chD).length) != (Nat.cast (R := Int) (b.map chD).length))), RV.d (DV.bool true))] rfl (by kernel_rfl : runEnd (cfT t2) true _ 1000 0 _ _ (ini 70 [.d (chL a), .d (chL b)] []) = some (RV.d (DV.bool false), [], _, _)) trivial ⟨le_bool h10, trivial⟩ ⟨by congr 2; refine (decide_eq_false ?_).symm; rintro rfl; simp at h10, rfl⟩
  · skip
    refine WK.segA ok 1000 0 [(10, RV.d (DV.bool false))] [] [0, 1, 5] [] [(RV.d (DV.bool ((Nat.cast (R := Int) (a.map chD).length) != (Nat.cast (R := Int) (b.map chD).length))), RV.d (DV.bool false))] rfl (by kernel_rfl : runSegA (cfT t2) 1000 0 _ _ _ _ (ini 70 [.d (chL a), .d (chL b)] []) = some (stackAt saC 0, saS (a.map chD) (b.map chD) 0, _, _)) trivial ⟨le_bool h10, trivial⟩ ?_
    have e : (a.length : Int) = b.length := (by simpa using h10)
    exact hloop (by omega)
theorem sa_ent : EntOk Try.prog 16 (e2 smG) := by
  refine e2_ok fun x x2 y c hg hc => ?_
  simp only [smG, Option.some.injEq, Prod.mk.injEq] at hg
  obtain ⟨rfl, rfl⟩ := hg
  obtain ⟨a, rfl, wa⟩ := isL_spec (hc (isL x) (by simp))
  obtain ⟨l, rfl, hl⟩ := isL_spec (hc (isL x2) (by simp))
  rw [unL_chL, unL_chL]
  exact sa_c a l wa hl
end Go.Proofs.Ytljfolepmkcjlaa

/-
  The changes' laws ask first that a small thing goes right: a closed run.
-/
namespace Go.Proofs.Ytljfolepmkcjlaa
open Go.RowKit Am
set_option maxRecDepth 100000

end Go.Proofs.Ytljfolepmkcjlaa

/-
  Plain laws of changes put together: key by key; three of them; there and back. No program in sight.
-/
namespace Go.Proofs.Ytljfolepmkcjlaa.Plain

/-! ### A list whose changes join those of another list, each at most once -/
/-- what a change comes to, followed by what stands at its key -/
def comb (x : Chg) : Option Chg → Chg
  | none => x
  | some y => ⟨x.t, x.k, x.o, y.n⟩
def links (b : List Chg) (x : Chg) : Bool := match look x b with
  | none => true
  | some y => decide (x.n = y.o)
def joinC (a b : List Chg) : List Chg := a.map (fun x => comb x (look x b)) ++ b.filter fun y => (look y a).isNone

theorem comb_key (x : Chg) (o : Option Chg) : (comb x o).t = x.t ∧ (comb x o).k = x.k := by cases o <;> exact ⟨rfl, rfl⟩
theorem findIdx_look {x : Chg} : ∀ {l : List Chg}, (l.findIdx? (fun y => keyB y x) = none ↔ look x l = none)
  | [] => by simp [look]
  | y :: r => by
    rw [List.findIdx?_cons, look_cons]
    cases h : keyB y x with
    | true => simp
    | false =>
      simp only [Bool.false_eq_true, if_false]
      rw [← findIdx_look (x := x) (l := r)]
      cases r.findIdx? (fun y => keyB y x) <;> simp
/-- one step where the key stands nowhere -/
theorem mStep_new {a : List Chg} {x : Chg} (h : look x a = none) : mStep a x = some (a ++ [x]) := by
  unfold mStep; rw [findIdx_look.2 h]
/-- one step where it stands -/
theorem mStep_old {a1 a2 : List Chg} {y x : Chg} (hn : ∀ z ∈ a1, keyB z x = false) (hk : keyB y x = true) :
    mStep (a1 ++ y :: a2) x = if y.n = x.o then some (a1 ++ ⟨y.t, y.k, y.o, x.n⟩ :: a2) else none := by
  have hf : (a1 ++ y :: a2).findIdx? (fun z => keyB z x) = some a1.length := by
    rw [List.findIdx?_eq_some_iff_getElem]
    refine ⟨by simp, by simpa using hk, fun j hj => ?_⟩
    rw [List.getElem_append_left hj]
    have := hn a1[j] (List.getElem_mem _)
    simp [this]
  unfold mStep
  rw [hf]
  simp only
  rw [show (a1 ++ y :: a2)[a1.length]? = some y by simp]
  simp only
  split
  · congr 1; simp
  · rfl
theorem look_split {x y : Chg} : ∀ {l : List Chg}, look x l = some y → ∃ l1 l2, l = l1 ++ y :: l2 ∧ ∀ z ∈ l1, keyB z x = false
  | [], h => by cases h
  | z :: r, h => by
    rw [look_cons] at h
    by_cases e : keyB z x = true
    · rw [if_pos e] at h; injection h with h; subst h
      exact ⟨[], r, rfl, by simp⟩
    · rw [if_neg e] at h
      obtain ⟨l1, l2, e1, e2⟩ := look_split h
      refine ⟨z :: l1, l2, by rw [e1]; rfl, fun w hw => ?_⟩
      rcases List.mem_cons.1 hw with rfl | hw
      · simpa using e
      · exact e2 w hw
/-- a list with no two of one key comes to itself -/
theorem mFold_self : ∀ {l a : List Chg}, nokey (a ++ l) → mFold a l = some (a ++ l)
  | [], a, _ => by simp [mFold]
  | x :: r, a, h => by
    have hx : look x a = none := look_none.2 fun y hy => (nokey_append.1 h).2.2 y hy x (by simp)
    simp only [mFold, mStep_new hx]
    have h2 : nokey ((a ++ [x]) ++ r) := by simpa using h
    rw [mFold_self h2]
    simp
theorem mFold_append : ∀ (l1 l2 a : List Chg), mFold a (l1 ++ l2) = match mFold a l1 with | none => none | some b => mFold b l2
  | [], l2, a => rfl
  | x :: r, l2, a => by
    simp only [List.cons_append, mFold]
    cases mStep a x with
    | none => rfl
    | some b => exact mFold_append r l2 b
/-- b's changes come behind a's: what has been gone through of b stands joined, b2 is to come -/
theorem mFold_join (a : List Chg) (ha : nokey a) : ∀ (b2 b1 : List Chg), nokey (b1 ++ b2) → (∀ x ∈ a, links b1 x = true) →
    mFold (joinC a b1) b2 = if (a.all (links (b1 ++ b2))) = true then some (joinC a (b1 ++ b2)) else none
  | [], b1, _, hl => by
    rw [List.append_nil, if_pos (List.all_eq_true.2 hl)]; rfl
  | y :: r, b1, hb, hl => by
    have hyb1 : look y b1 = none := look_none.2 fun z hz => (nokey_append.1 hb).2.2 z hz y (by simp)
    have hb' : nokey ((b1 ++ [y]) ++ r) := by simpa using hb
    have happ : b1 ++ y :: r = (b1 ++ [y]) ++ r := by simp
    -- x's partner among b1 and y
    have hlook : ∀ x : Chg, look x (b1 ++ [y]) = match look x b1 with | some z => some z | none => if keyB y x = true then some y else none := fun x => by
      rw [look_append]
      cases look x b1 with
      | some z => rfl
      | none => simp only [look_cons, look_nil]
    cases hy : look y a with
    | none =>
      -- a new key
      have hnx : ∀ x ∈ a, keyB y x = false := fun x hx => by
        cases e : keyB y x with
        | false => rfl
        | true => have := look_none.1 hy x hx; rw [keyB_symm e] at this; cases this
      have hla : ∀ x ∈ a, look x (b1 ++ [y]) = look x b1 := fun x hx => by
        rw [hlook x, hnx x hx]
        cases look x b1 <;> rfl
      have hj : joinC a (b1 ++ [y]) = joinC a b1 ++ [y] := by
        unfold joinC
        rw [List.filter_append]
        simp only [List.filter_cons, List.filter_nil, hy, Option.isNone_none, if_true]
        rw [← List.append_assoc]
        congr 2
        apply List.map_congr_left
        intro x hx
        rw [hla x hx]
      have hnew : look y (joinC a b1) = none := look_none.2 fun z hz => by
        rcases List.mem_append.1 hz with hz | hz
        · obtain ⟨x, hx, rfl⟩ := List.mem_map.1 hz
          have := hnx x hx
          cases e : keyB (comb x (look x b1)) y with
          | false => rfl
          | true =>
            rw [keyB_iff, (comb_key _ _).1, (comb_key _ _).2] at e
            rw [keyB_iff.2 ⟨e.1.symm, e.2.symm⟩] at this; cases this
        · exact look_none.1 hyb1 z (List.mem_filter.1 hz).1
      simp only [mFold, mStep_new hnew]
      rw [← hj, happ]
      refine mFold_join a ha r (b1 ++ [y]) hb' fun x hx => ?_
      have := hl x hx
      unfold links at this ⊢
      rw [hla x hx]; exact this
    | some x0 =>
      have hx0 := look_mem hy
      have hk0 := look_key hy
      obtain ⟨a1, a2, ea, hne⟩ := look_split hy
      have hk0' := keyB_symm hk0
      have hx0b1 : look x0 b1 = none := by rw [look_congr hk0]; exact hyb1
      -- others are not of this key
      have hoth : ∀ x ∈ a, x ≠ x0 → keyB y x = false := fun x hx hxe => by
        cases e : keyB y x with
        | false => rfl
        | true =>
          have h1 := look_of ha hx (x := y) (keyB_symm e)
          rw [hy] at h1; injection h1 with h1; exact absurd h1.symm hxe
      have hla : ∀ x ∈ a, x ≠ x0 → look x (b1 ++ [y]) = look x b1 := fun x hx hxe => by
        rw [hlook x, hoth x hx hxe]
        cases look x b1 <;> rfl
      have hla0 : look x0 (b1 ++ [y]) = some y := by
        rw [hlook x0, hx0b1]; simp only; rw [if_pos hk0']
      have hne1 : ∀ x ∈ a1, x ≠ x0 := fun x hx e => by
        have := hne x hx; rw [e, hk0] at this; cases this
      have hne2 : ∀ x ∈ a2, x ≠ x0 := fun x hx e => by
        rw [ea] at ha
        have := (nokey_append.1 ha).2.1.1 x hx
        rw [e, keyB_refl] at this; cases this
      have hj : joinC a b1 = a1.map (fun x => comb x (look x b1)) ++ x0 :: (a2.map (fun x => comb x (look x b1)) ++ b1.filter fun y => (look y a).isNone) := by
        have e0 : comb x0 (look x0 b1) = x0 := by rw [hx0b1]; rfl
        unfold joinC
        conv => lhs; arg 1; rw [ea]
        rw [List.map_append, List.map_cons, e0]
        simp
      have hj2 : joinC a (b1 ++ [y]) = a1.map (fun x => comb x (look x b1)) ++ ⟨x0.t, x0.k, x0.o, y.n⟩ :: (a2.map (fun x => comb x (look x b1)) ++ b1.filter fun y => (look y a).isNone) := by
        unfold joinC
        have hf : (b1 ++ [y]).filter (fun y => (look y a).isNone) = b1.filter fun y => (look y a).isNone := by
          rw [List.filter_append]
          simp only [List.filter_cons, List.filter_nil, hy, Option.isNone_some, Bool.false_eq_true, if_false, List.append_nil]
        have hm : a.map (fun x => comb x (look x (b1 ++ [y]))) = a1.map (fun x => comb x (look x b1)) ++ ⟨x0.t, x0.k, x0.o, y.n⟩ :: a2.map (fun x => comb x (look x b1)) := by
          have m1 : a1.map (fun x => comb x (look x (b1 ++ [y]))) = a1.map (fun x => comb x (look x b1)) := List.map_congr_left fun x hx => by
            rw [hla x (by rw [ea]; simp [hx]) (hne1 x hx)]
          have m2 : a2.map (fun x => comb x (look x (b1 ++ [y]))) = a2.map (fun x => comb x (look x b1)) := List.map_congr_left fun x hx => by
            rw [hla x (by rw [ea]; simp [hx]) (hne2 x hx)]
          conv => lhs; rw [ea]
          rw [List.map_append, List.map_cons, m1, m2, hla0]
          rfl
        rw [hf, hm]
        simp
      have hst := mStep_old (a1 := a1.map (fun x => comb x (look x b1))) (a2 := a2.map (fun x => comb x (look x b1)) ++ b1.filter fun y => (look y a).isNone) (y := x0) (x := y) (fun z hz => by
        obtain ⟨x, hx, rfl⟩ := List.mem_map.1 hz
        have := hne x hx
        simp only [keyB, (comb_key _ _).1, (comb_key _ _).2] at this ⊢; exact this) hk0
      rw [← hj] at hst
      by_cases he : x0.n = y.o
      · rw [if_pos he, ← hj2] at hst
        simp only [mFold, hst]
        rw [happ]
        refine mFold_join a ha r (b1 ++ [y]) hb' fun x hx => ?_
        by_cases hxe : x = x0
        · subst hxe; unfold links; rw [hla0]; exact decide_eq_true he
        · have := hl x hx
          unfold links at this ⊢
          rw [hla x hx hxe]; exact this
      · rw [if_neg he] at hst
        simp only [mFold, hst]
        rw [if_neg]
        intro hall
        have := List.all_eq_true.1 hall x0 hx0
        unfold links at this
        rw [happ, look_append, hla0] at this
        exact he (of_decide_eq_true this)
/-- two lists, each with no two of one key -/
theorem mFold_two {a b : List Chg} (ha : nokey a) (hb : nokey b) : mFold [] (a ++ b) = if a.all (links b) = true then some (joinC a b) else none := by
  rw [mFold_append, mFold_self (l := a) (a := []) (by simpa using ha)]
  simp only [List.nil_append]
  have h0 : joinC a [] = a := by
    unfold joinC
    simp only [List.filter_nil, List.append_nil, look_nil]
    conv => rhs; rw [← List.map_id a]
    apply List.map_congr_left
    intro x _; rfl
  have := mFold_join a ha b [] (by simpa using hb) (fun x _ => by unfold links; rw [look_nil])
  rw [h0, List.nil_append] at this
  exact this
end Go.Proofs.Ytljfolepmkcjlaa.Plain

/-
  Plain laws of changesets: two that come together; three; with their contrary; one upon the other, either way. No program in sight.
-/
namespace Go.Proofs.Ytljfolepmkcjlaa.Plain

/-! ### What may be -/
structure Set' (l : List Chg) : Prop where
  may : mayL l = true
  wf : ∀ c ∈ l, c.wf
theorem Set'.all {l : List Chg} (h : Set' l) : (∀ c ∈ l, mayC c = true ∧ rowOk c.k) ∧ sorted l := by
  have hm := h.may
  simp only [mayL, Bool.and_eq_true] at hm
  obtain ⟨a1, a2, _⟩ := mayI_spec hm.2 h.wf (by simp)
  exact ⟨a1, a2⟩
theorem Set'.nk {l : List Chg} (h : Set' l) : nokey l := nokey_sorted (fun c hc => (h.all.1 c hc).2) h.all.2
theorem Set'.len {l : List Chg} (h : Set' l) : l.length ≤ 1000 := by
  have hm := h.may
  simp only [mayL, Bool.and_eq_true, decide_eq_true_eq] at hm
  exact hm.1
theorem mayC_ne {c : Chg} (h : mayC c = true) : c.o ≠ c.n := by
  simp only [mayC, Bool.and_eq_true, Bool.not_eq_true', decide_eq_false_iff_not] at h
  exact h.1.1.1.2
theorem mayI_of : ∀ {l : List Chg} (p : Option Chg), (∀ c ∈ l, mayC c = true) → sorted l → (∀ q, p = some q → ∀ c ∈ l, cmpC q c < 0) → mayI p l = true
  | [], _, _, _, _ => rfl
  | x :: r, p, hm, hs, hp => by
    simp only [mayI, Bool.and_eq_true]
    refine ⟨⟨hm x (by simp), ?_⟩, mayI_of (some x) (fun c hc => hm c (by simp [hc])) hs.2 (fun q e c hc => by injection e with e; subst e; exact hs.1 c hc)⟩
    cases p with
    | none => rfl
    | some q => exact decide_eq_true (hp q rfl x (by simp))
theorem set_of {l : List Chg} (hm : ∀ c ∈ l, mayC c = true) (hw : ∀ c ∈ l, c.wf) (hs : sorted l) (hl : l.length ≤ 1000) : Set' l :=
  ⟨by simp only [mayL, Bool.and_eq_true, decide_eq_true_eq]; exact ⟨hl, mayI_of none hm hs (by simp)⟩, hw⟩
/-- two sorted lists of the same members are one -/
theorem strict_ext : ∀ {a b : List Chg}, sorted a → sorted b → (∀ x, x ∈ a ↔ x ∈ b) → a = b
  | [], [], _, _, _ => rfl
  | [], y :: q, _, _, h => by have := (h y).2 (by simp); simp at this
  | x :: r, [], _, _, h => by have := (h x).1 (by simp); simp at this
  | x :: r, y :: q, ha, hb, h => by
    have e : x = y := by
      rcases List.mem_cons.1 ((h x).1 (by simp)) with e | hx
      · exact e
      · rcases List.mem_cons.1 ((h y).2 (by simp)) with e | hy
        · exact e.symm
        · have h1 := ha.1 y hy
          have h2 := hb.1 x hx
          rw [cmpC_anti x y] at h2; omega
    subst e
    have hxr : ¬ x ∈ r := fun hx => by have := ha.1 x hx; rw [cmpC_self] at this; omega
    have hxq : ¬ x ∈ q := fun hx => by have := hb.1 x hx; rw [cmpC_self] at this; omega
    rw [strict_ext ha.2 hb.2 fun z => ?_]
    constructor
    · intro hz
      rcases List.mem_cons.1 ((h z).1 (by simp [hz])) with e | hz'
      · exact absurd (e ▸ hz) hxr
      · exact hz'
    · intro hz
      rcases List.mem_cons.1 ((h z).2 (by simp [hz])) with e | hz'
      · exact absurd (e ▸ hz) hxq
      · exact hz'
/-- A changeset is told by what stands at each key. -/
theorem set_ext {a b : List Chg} (ha : Set' a) (hb : Set' b) (h : ∀ z, look z a = look z b) : a = b :=
  strict_ext ha.all.2 hb.all.2 fun x => ⟨fun hx => look_mem (by rw [← h x]; exact look_self ha.nk hx), fun hx => look_mem (by rw [h x]; exact look_self hb.nk hx)⟩
/-! ### Two that come together -/
def both : Option Chg → Option Chg → Option Chg
  | some x, some y => if x.o = y.n then none else some ⟨x.t, x.k, x.o, y.n⟩
  | some x, none => some x
  | none, q => q
def cat (a b : List Chg) : List Chg := Srt.isort cmpC (live (joinC a b))

theorem nokey_join {a b : List Chg} (ha : nokey a) (hb : nokey b) : nokey (joinC a b) := by
  unfold joinC
  refine nokey_append.2 ⟨?_, nokey_filter _ hb, ?_⟩
  · clear hb
    induction a with
    | nil => trivial
    | cons x r ih =>
      refine ⟨fun y hy => ?_, ih ha.2⟩
      obtain ⟨z, hz, rfl⟩ := List.mem_map.1 hy
      have := ha.1 z hz
      simp only [keyB, (comb_key _ _).1, (comb_key _ _).2] at this ⊢; exact this
  · intro x hx y hy
    obtain ⟨z, hz, rfl⟩ := List.mem_map.1 hx
    have hy2 := (List.mem_filter.1 hy).2
    rw [Option.isNone_iff_eq_none] at hy2
    have := look_none.1 hy2 z hz
    simp only [keyB, (comb_key _ _).1, (comb_key _ _).2] at this ⊢; exact this
theorem look_map_key {f : Chg → Chg} (hf : ∀ x, (f x).t = x.t ∧ (f x).k = x.k) (z : Chg) : ∀ (l : List Chg), look z (l.map f) = (look z l).map f
  | [] => rfl
  | x :: r => by
    rw [List.map_cons, look_cons, look_cons, look_map_key hf z r]
    have : keyB (f x) z = keyB x z := by simp only [keyB, (hf x).1, (hf x).2]
    rw [this]
    split <;> rfl
theorem look_filter_not {z : Chg} {a : List Chg} : ∀ (b : List Chg), look z (b.filter fun y => (look y a).isNone) = if (look z a).isNone then look z b else none
  | [] => by simp [look]
  | y :: r => by
    rw [List.filter_cons, look_cons]
    by_cases hk : keyB y z = true
    · have e := look_congr hk a
      rw [if_pos hk]
      by_cases hn : (look y a).isNone = true
      · rw [if_pos hn, look_cons, if_pos hk, ← e, if_pos hn]
      · rw [if_neg hn, look_filter_not r, ← e, if_neg hn, if_neg hn]
    · rw [if_neg hk]
      split
      · rw [look_cons, if_neg hk]; exact look_filter_not r
      · exact look_filter_not r
theorem look_join {a b : List Chg} (z : Chg) : look z (joinC a b) = match look z a with | some x => some (comb x (look x b)) | none => look z b := by
  unfold joinC
  rw [look_append, look_map_key (f := fun x => comb x (look x b)) (fun x => comb_key _ _), look_filter_not]
  cases look z a with
  | none => simp
  | some x => rfl
theorem look_filter {p : Chg → Bool} (z : Chg) : ∀ {l : List Chg}, nokey l → look z (l.filter p) = match look z l with | some y => if p y = true then some y else none | none => none
  | [], _ => rfl
  | y :: r, hn => by
    rw [List.filter_cons, look_cons]
    by_cases hk : keyB y z = true
    · rw [if_pos hk]
      by_cases hp : p y = true
      · rw [if_pos hp, look_cons, if_pos hk]; simp only; rw [if_pos hp]
      · rw [if_neg hp, look_filter z hn.2]
        simp only
        rw [if_neg hp]
        have : look z r = none := look_none.2 fun w hw => by
          cases e : keyB w z with
          | false => rfl
          | true => have := hn.1 w hw; rw [keyB_trans hk (keyB_symm e)] at this; cases this
        rw [this]
    · rw [if_neg hk]
      split
      · rw [look_cons, if_neg hk]; exact look_filter z hn.2
      · exact look_filter z hn.2
theorem look_perm {a b : List Chg} (hp : a.Perm b) (hn : nokey a) (z : Chg) : look z a = look z b := by
  have hb := nokey_perm hp hn
  cases h : look z a with
  | none =>
    symm
    refine look_none.2 fun y hy => ?_
    exact look_none.1 h y (hp.mem_iff.2 hy)
  | some y => exact (look_of hb (hp.mem_iff.1 (look_mem h)) (look_key h)).symm
theorem nokey_cat {a b : List Chg} (ha : nokey a) (hb : nokey b) : nokey (cat a b) := nokey_perm (Srt.isort_ok preC _).2.symm (nokey_filter _ (nokey_join ha hb))
theorem look_cat {a b : List Chg} (ha : Set' a) (hb : Set' b) (z : Chg) : look z (cat a b) = both (look z a) (look z b) := by
  have hj := nokey_join ha.nk hb.nk
  unfold cat
  have hp := (Srt.isort_ok preC (live (joinC a b))).2
  rw [look_perm hp (nokey_perm hp.symm (nokey_filter _ hj))]
  unfold live
  rw [look_filter z hj, look_join]
  cases h : look z a with
  | none =>
    simp only
    cases h2 : look z b with
    | none => rfl
    | some y =>
      have := mayC_ne (hb.all.1 y (look_mem h2)).1
      simp [both, this]
  | some x =>
    have hx := mayC_ne (ha.all.1 x (look_mem h)).1
    have hxz : look x b = look z b := look_congr (look_key h) b
    simp only [hxz]
    cases h2 : look z b with
    | none => simp [both, comb, hx]
    | some y =>
      simp only [both, comb]
      by_cases e : x.o = y.n
      · simp [e]
      · simp [e]
theorem cat_mem {a b : List Chg} (ha : Set' a) (hb : Set' b) : ∀ c ∈ cat a b, mayC c = true ∧ c.wf := by
  intro c hc
  have hc2 := List.mem_filter.1 ((Srt.isort_ok preC _).2.mem_iff.1 hc)
  have hne : c.o ≠ c.n := by simpa using hc2.2
  rcases List.mem_append.1 hc2.1 with h | h
  · obtain ⟨x, hx, rfl⟩ := List.mem_map.1 h
    have mx := (ha.all.1 x hx).1
    have wx := ha.wf x hx
    cases h2 : look x b with
    | none => exact ⟨mx, wx⟩
    | some y =>
      have my := (hb.all.1 y (look_mem h2)).1
      have wy := hb.wf y (look_mem h2)
      rw [h2] at hne
      simp only [comb] at hne ⊢
      simp only [mayC, Bool.and_eq_true, Bool.not_eq_true', decide_eq_false_iff_not] at mx my ⊢
      exact ⟨⟨⟨⟨⟨mx.1.1.1.1, hne⟩, mx.1.1.2⟩, mx.1.2⟩, my.2⟩, wx.1, wx.2.1, wy.2.2⟩
  · have h := (List.mem_filter.1 h).1
    exact ⟨(hb.all.1 c h).1, hb.wf c h⟩
theorem cat_len {a b : List Chg} : (cat a b).length ≤ a.length + b.length := by
  unfold cat
  rw [(Srt.isort_ok preC _).2.length_eq]
  have h1 : (live (joinC a b)).length ≤ (joinC a b).length := List.length_filter_le _ _
  have h2 : (b.filter fun y => (look y a).isNone).length ≤ b.length := List.length_filter_le _ _
  have h3 : (joinC a b).length = a.length + (b.filter fun y => (look y a).isNone).length := by unfold joinC; rw [List.length_append, List.length_map]
  omega
theorem cat_set {a b : List Chg} (ha : Set' a) (hb : Set' b) (hl : (cat a b).length ≤ 1000) : Set' (cat a b) := by
  have hn := nokey_cat ha.nk hb.nk
  have hm := cat_mem ha hb
  refine set_of (fun c hc => (hm c hc).1) (fun c hc => (hm c hc).2) (sorted_of (Srt.isort_ok preC _).1 (distB_nokey (fun c hc => mayC_key (hm c hc).1 (hm c hc).2) hn)) hl
theorem concat_eq {a b : List Chg} (ha : Set' a) (hb : Set' b) : concatC a b = if a.all (links b) = true then (if mayL (cat a b) = true then (cat a b, 0) else ([], 2)) else ([], 220) := by
  unfold concatC mergeC
  rw [ha.may, hb.may, mFold_two ha.nk hb.nk]
  simp only [Bool.and_self, if_true]
  split
  · rename_i h; split at h
    · cases h
    · rename_i hl; rw [if_neg hl]
  · rename_i A h; split at h
    · rename_i hl; injection h with h; subst h; rw [if_pos hl]; rfl
    · cases h
theorem concat_of {a b : List Chg} (ha : Set' a) (hb : Set' b) (hl : ∀ x ∈ a, links b x = true) (hlen : (cat a b).length ≤ 1000) : concatC a b = (cat a b, 0) := by
  rw [concat_eq ha hb, if_pos (List.all_eq_true.2 hl), if_pos (cat_set ha hb hlen).may]

/-! ### Three -/
/-! ### Contraries -/
/-! ### One upon the other, either way -/
theorem look_filterMap {g : Chg → Option Chg} (hg : ∀ x y, g x = some y → y.t = x.t ∧ y.k = x.k) (z : Chg) : ∀ {l : List Chg}, nokey l → look z (l.filterMap g) = match look z l with | some x => g x | none => none
  | [], _ => rfl
  | x :: r, hn => by
    rw [List.filterMap_cons, look_cons]
    have ih := look_filterMap hg z hn.2
    have hnot : keyB x z = true → look z r = none := fun hk => look_none.2 fun w hw => by
      cases e : keyB w z with
      | false => rfl
      | true => have := hn.1 w hw; rw [keyB_trans hk (keyB_symm e)] at this; cases this
    cases hx : g x with
    | none =>
      by_cases hk : keyB x z = true
      · rw [if_pos hk]; simp only [hx]
        rw [ih, hnot hk]
      · rw [if_neg hk]; exact ih
    | some y =>
      obtain ⟨e1, e2⟩ := hg x y hx
      have hky : keyB y z = keyB x z := by simp only [keyB, e1, e2]
      simp only
      rw [look_cons, hky]
      by_cases hk : keyB x z = true
      · rw [if_pos hk, if_pos hk]; simp only [hx]
      · rw [if_neg hk, if_neg hk]; exact ih
theorem sorted_filterMap {g : Chg → Option Chg} (hg : ∀ x y, g x = some y → y.t = x.t ∧ y.k = x.k) : ∀ {l : List Chg}, sorted l → sorted (l.filterMap g)
  | [], _ => trivial
  | x :: r, h => by
    rw [List.filterMap_cons]
    cases hx : g x with
    | none => exact sorted_filterMap hg h.2
    | some y =>
      obtain ⟨e1, e2⟩ := hg x y hx
      refine ⟨fun w hw => ?_, sorted_filterMap hg h.2⟩
      obtain ⟨u, hu, huw⟩ := List.mem_filterMap.1 hw
      obtain ⟨f1, f2⟩ := hg u w huw
      have := h.1 u hu
      unfold cmpC at this ⊢
      rw [e1, e2, f1, f2]; exact this
def uponL (win : Bool) (ours th : List Chg) : List Chg := ours.filterMap fun x => upF win (x, look x th)
theorem upF_key {win : Bool} {th : List Chg} : ∀ x y : Chg, upF win (x, look x th) = some y → y.t = x.t ∧ y.k = x.k := by
  intro x y h
  cases hl : look x th with
  | none => rw [hl] at h; simp only [upF, Option.some.injEq] at h; rw [← h]; exact ⟨rfl, rfl⟩
  | some w =>
    rw [hl] at h
    simp only [upF] at h
    split at h
    · injection h with h; rw [← h]; exact ⟨rfl, rfl⟩
    · cases h
theorem set_upon {win : Bool} {ours th : List Chg} (ho : Set' ours) (ht : Set' th) : Set' (uponL win ours th) := by
  have hm : ∀ c ∈ uponL win ours th, mayC c = true ∧ c.wf := by
    intro c hc
    obtain ⟨x, hx, hxc⟩ := List.mem_filterMap.1 hc
    have mx := (ho.all.1 x hx).1
    have wx := ho.wf x hx
    cases hl : look x th with
    | none => rw [hl] at hxc; simp only [upF, Option.some.injEq] at hxc; rw [← hxc]; exact ⟨mx, wx⟩
    | some y =>
      have my := (ht.all.1 y (look_mem hl)).1
      have wy := ht.wf y (look_mem hl)
      rw [hl] at hxc
      simp only [upF] at hxc
      split at hxc
      · rename_i hc
        injection hxc with hxc
        rw [← hxc]
        simp only [mayC, Bool.and_eq_true, Bool.not_eq_true', decide_eq_false_iff_not] at mx my ⊢
        exact ⟨⟨⟨⟨⟨mx.1.1.1.1, fun e => hc.2 e.symm⟩, mx.1.1.2⟩, my.2⟩, mx.2⟩, wx.1, wy.2.2, wx.2.2⟩
      · cases hxc
  refine set_of (fun c hc => (hm c hc).1) (fun c hc => (hm c hc).2) (sorted_filterMap upF_key ho.all.2) ?_
  exact Nat.le_trans (List.length_filterMap_le ..) ho.len
theorem look_upon {win : Bool} {ours th : List Chg} (ho : Set' ours) (z : Chg) : look z (uponL win ours th) = match look z ours with | some x => upF win (x, look z th) | none => none := by
  unfold uponL
  rw [look_filterMap upF_key z ho.nk]
  cases h : look z ours with
  | none => rfl
  | some x => simp only; rw [look_congr (look_key h)]
/-- The same old row on both sides: whoever is to win, both ways come to the same. -/
theorem both_law {win : Bool} {ours th : List Chg} (ho : Set' ours) (ht : Set' th) (hf : ∀ x ∈ ours, fits th x = true) (hl : ours.length + th.length ≤ 500) :
    ∃ s, concatC th (uponL win ours th) = (s, 0) ∧ concatC ours (uponL (!win) th ours) = (s, 0) := by
  have ha := set_upon (win := win) ho ht
  have hb := set_upon (win := !win) ht ho
  have la : (uponL win ours th).length ≤ ours.length := List.length_filterMap_le ..
  have lb : (uponL (!win) th ours).length ≤ th.length := List.length_filterMap_le ..
  have l1 : (cat th (uponL win ours th)).length ≤ 1000 := Nat.le_trans cat_len (by omega)
  have l2 : (cat ours (uponL (!win) th ours)).length ≤ 1000 := Nat.le_trans cat_len (by omega)
  have hfe : ∀ z x y, look z ours = some x → look z th = some y → x.o = y.o ∧ x.t = y.t ∧ x.k = y.k := fun z x y hx hy => by
    have := hf x (look_mem hx)
    have kk := keyB_iff.1 (keyB_trans (look_key hx) (keyB_symm (look_key hy)))
    unfold fits at this
    rw [look_atC, look_congr (look_key hx), hy] at this
    exact ⟨of_decide_eq_true this, kk⟩
  have k1 : ∀ x ∈ th, links (uponL win ours th) x = true := fun y hy => by
    unfold links
    rw [look_upon ho]
    cases h : look y ours with
    | none => rfl
    | some x =>
      simp only
      rw [look_self ht.nk hy]
      simp only [upF]
      split
      · rfl
      · rename_i z hz
        split at hz
        · injection hz with hz; rw [← hz]; exact decide_eq_true rfl
        · cases hz
  have k2 : ∀ x ∈ ours, links (uponL (!win) th ours) x = true := fun x hx => by
    unfold links
    rw [look_upon ht]
    cases h : look x th with
    | none => rfl
    | some y =>
      simp only
      rw [look_self ho.nk hx]
      simp only [upF]
      split
      · rfl
      · rename_i z hz
        split at hz
        · injection hz with hz; rw [← hz]; exact decide_eq_true rfl
        · cases hz
  have e : cat th (uponL win ours th) = cat ours (uponL (!win) th ours) := by
    refine set_ext (cat_set ht ha l1) (cat_set ho hb l2) fun z => ?_
    rw [look_cat ht ha, look_cat ho hb, look_upon ho, look_upon ht]
    cases h1 : look z ours with
    | none =>
      cases h2 : look z th with
      | none => rfl
      | some y => rfl
    | some x =>
      have hx := mayC_ne (ho.all.1 x (look_mem h1)).1
      cases h2 : look z th with
      | none => rfl
      | some y =>
        have hy := mayC_ne (ht.all.1 y (look_mem h2)).1
        obtain ⟨e1, e2, e3⟩ := hfe z x y h1 h2
        simp only [upF]
        obtain ⟨xt, xk, xo, xn⟩ := x
        obtain ⟨yt, yk, yo, yn⟩ := y
        simp only at *
        subst e1 e2 e3
        cases win with
        | true =>
          by_cases hn : xn = yn
          · subst hn; simp [both]
          · simp [both, hn, hx]
        | false =>
          by_cases hn : yn = xn
          · subst hn; simp [both]
          · simp [both, hn, hy]
  exact ⟨_, concat_of ht ha k1 l1, by rw [e]; exact concat_of ho hb k2 l2⟩
theorem fits_symm {ours th : List Chg} (ho : Set' ours) (ht : Set' th) : (∀ x ∈ ours, fits th x = true) → ∀ y ∈ th, fits ours y = true := by
  intro h y hy
  unfold fits
  rw [look_atC]
  cases hl : look y ours with
  | none => rfl
  | some x =>
    have := h x (look_mem hl)
    unfold fits at this
    rw [look_atC, look_congr (look_key hl), look_self ht.nk hy] at this
    have e := of_decide_eq_true this
    exact decide_eq_true e.symm
theorem refE_symm {ours th : List Chg} (wo : ∀ c ∈ ours, c.wf) (wt : ∀ c ∈ th, c.wf) : refE ours th = refE th ours := by
  unfold refE
  rw [Bool.and_comm (mayL th)]
  by_cases h : (mayL ours && mayL th) = true
  · rw [if_pos h, if_pos h]
    simp only [Bool.and_eq_true] at h
    have ho : Set' ours := ⟨h.1, wo⟩
    have ht : Set' th := ⟨h.2, wt⟩
    have : ours.all (fits th) = th.all (fits ours) := by
      apply Bool.eq_iff_iff.2
      simp only [List.all_eq_true]
      exact ⟨fits_symm ho ht, fits_symm ht ho⟩
    rw [this]
  · rw [if_neg h, if_neg h]
theorem upon_self {win : Bool} {l : List Chg} (h : Set' l) : meetQ (upF win) l [] = (l, 0) ∧ meetQ (upF win) l l = ([], 0) ∧ meetQ (upF win) [] l = ([], 0) := by
  have e0 : mayL [] = true := rfl
  refine ⟨?_, ?_, ?_⟩
  · have hr : refE l [] = 0 := by
      unfold refE; rw [h.may, e0]
      have : l.all (fits []) = true := List.all_eq_true.2 fun x _ => rfl
      simp [this]
    unfold meetQ
    rw [if_pos hr]
    congr 1
    have : (fun x : Chg => upF win (x, atC x [])) = some := by funext x; rfl
    rw [this, List.filterMap_some]
  · have hr : refE l l = 0 := by
      unfold refE; rw [h.may]
      have : l.all (fits l) = true := List.all_eq_true.2 fun x hx => by unfold fits; rw [look_atC, look_self h.nk hx]; exact decide_eq_true rfl
      simp [this]
    unfold meetQ
    rw [if_pos hr]
    congr 1
    rw [List.filterMap_eq_nil_iff]
    intro x hx
    rw [look_atC, look_self h.nk hx]
    simp [upF]
  · have hr : refE [] l = 0 := by unfold refE; rw [h.may, e0]; rfl
    unfold meetQ
    rw [if_pos hr]; rfl
end Go.Proofs.Ytljfolepmkcjlaa.Plain

/-
  What the laws compare answers with: is, not, and their closures.
-/
namespace Go.Am
variable {P : Program}
/-- less said of the arguments -/
theorem C.args_le {f : FuncId} {args args' : List RV} {objs : List PObj} {Q : RV → List PObj → Prop} (hl : args.length = args'.length) (h : ∀ (i : Nat) (x y : RV), args[i]? = some x → args'[i]? = some y → RVle x y) (hC : C P f args' objs Q) : C P f args objs Q := by
  intro κ φ w vs h1 h2 h3 h4
  refine hC κ φ w vs h1 h2 (h3.trans hl) fun i y v hy hv => ?_
  have hi : i < args'.length := (List.getElem?_eq_some_iff.1 hy).1
  have hx : args[i]? = some args[i] := List.getElem?_eq_getElem (by omega)
  exact h i _ y hx hy κ φ _ _ v (h4 i _ v hx hv)
end Go.Am
namespace Go.Proofs.Ytljfolepmkcjlaa
open Go.RowKit Plain Am IntWalk
set_option maxRecDepth 100000
set_option linter.unusedVariables false
set_option linter.unusedSimpArgs false

abbrev lT : Nat := 22
def isE (g : Nat) : Ent := fun a o => match a, o with
  | [.d (.lst 0 [] true)], [] => some (.clo (.func g) [] [.ptr 0 0], [.box lT [.d (.lst 4 [] false)]], [])
  | [.d (.lst 4 els false)], [] => some (.clo (.func g) [] [.ptr 0 0], [.box lT [.d (.lst 4 els false)]], [])
  | _, _ => none
def is1E : Ent := fun a o => match a, o with
  | [.d l, .d (.int .i64 e), .ptr 0 0], [.box T [.d w]] => some (.d (.bool (decide (e = 0) && decide (unL l = unL w))), [.box T [.d w]], [Nat.beq T lT, isL l, isL w])
  | _, _ => none
def cnE : Ent := fun a o => match a, o with
  | [.d x, .d y], [] => some (.tup [.d (chL (concatC (unL x) (unL y)).1), .d (.int .i64 (concatC (unL x) (unL y)).2)], [], [isL x, isL y])
  | _, _ => none
noncomputable def tsm : List (Nat × Ent) := [(16, e2 smG)]
theorem tsm_ok : EntsOk Try.prog tsm := .cons sa_ent .nil
theorem isE_ok {f g : Nat} (h : ∀ els : List DV, C Try.prog f [.d (.lst 4 els false)] [] (fun r o => r = .clo (.func g) [] [.ptr 0 0] ∧ o = [.box lT [.d (.lst 4 els false)]])) : EntOk Try.prog f (isE g) := by
  intro a o r o' c hg hc
  unfold isE at hg
  split at hg
  · simp only [Option.some.injEq, Prod.mk.injEq] at hg
    obtain ⟨rfl, rfl, rfl⟩ := hg
    refine C.args_le (args' := [.d (.lst 4 [] false)]) rfl (fun i x y hx hy => ?_) (h [])
    match i, hx, hy with
    | 0, hx, hy => simp at hx hy; subst hx hy; exact nil_leM
    | i + 1, hx, _ => simp at hx
  · rename_i els
    simp only [Option.some.injEq, Prod.mk.injEq] at hg
    obtain ⟨rfl, rfl, rfl⟩ := hg
    exact h els
  · cases hg
theorem is1E_ok {f : Nat} (h : ∀ (l w : List Chg), okL l → okL w → ∀ e : Int, C Try.prog f [.d (chL l), .d (.int .i64 e), .ptr 0 0] [.box lT [.d (chL w)]] (fun r o => r = .d (.bool (decide (e = 0) && decide (l = w))) ∧ o = [.box lT [.d (chL w)]])) : EntOk Try.prog f is1E := by
  intro a o r o' c hg hc
  unfold is1E at hg
  split at hg
  · rename_i l e T w
    simp only [Option.some.injEq, Prod.mk.injEq] at hg
    obtain ⟨rfl, rfl, rfl⟩ := hg
    have hT := nbE (hc (Nat.beq T lT) (by simp))
    subst hT
    obtain ⟨L, rfl, hL⟩ := isL_spec (hc (isL l) (by simp))
    obtain ⟨W, rfl, hW⟩ := isL_spec (hc (isL w) (by simp))
    rw [unL_chL, unL_chL]
    exact h L W hL hW e
  · cases hg
theorem mergeC_ok {L : List Chg} (h : okL L) : okL (mergeC L).1 := by
  rw [mergeC_of]
  split
  · split
    · exact mrgC_ok h
    · exact okL_nil
  · exact okL_nil
theorem okL_app {a b : List Chg} (ha : okL a) (hb : okL b) (hl : a.length + b.length ≤ 65536) : okL (a ++ b) := ⟨by rw [List.length_append]; omega, fun c hc => by
  rcases List.mem_append.1 hc with hc | hc
  · exact ha.2 c hc
  · exact hb.2 c hc⟩
theorem concatC_ok {a b : List Chg} (ha : okL a) (hb : okL b) (hl : a.length + b.length ≤ 65536) : okL (concatC a b).1 := by
  unfold concatC
  split
  · exact mergeC_ok (okL_app ha hb hl)
  · exact okL_nil
theorem cn_ent {f : Nat} (h : ∀ a b : List Chg, okL a → okL b → C Try.prog f [.d (chL a), .d (chL b)] [] (fun r o => r = .tup [.d (chL (concatC a b).1), .d (.int .i64 (concatC a b).2)] ∧ o = [])) : EntOk Try.prog f cnE := by
  intro a o r o' c hg hc
  unfold cnE at hg
  split at hg
  · rename_i x y
    simp only [Option.some.injEq, Prod.mk.injEq] at hg
    obtain ⟨rfl, rfl, rfl⟩ := hg
    obtain ⟨A, rfl, hA⟩ := isL_spec (hc (isL x) (by simp))
    obtain ⟨B, rfl, hB⟩ := isL_spec (hc (isL y) (by simp))
    rw [unL_chL, unL_chL]
    exact h A B hA hB
  · cases hg
theorem ov_cn1 {a b s : List Chg} {e : Int} (h : concatC a b = (s, e)) : RVle (.d (chL (concatC (unL (chL a)) (unL (chL b))).1)) (.d (chL s)) := .of_eq (by rw [unL_chL, unL_chL, h])
theorem ov_cn2 {a b s : List Chg} {e : Int} (h : concatC a b = (s, e)) : RVle (.d (.int .i64 (concatC (unL (chL a)) (unL (chL b))).2)) (.d (.int .i64 e)) := .of_eq (by rw [unL_chL, unL_chL, h])
end Go.Proofs.Ytljfolepmkcjlaa

/-
  The reference's orders and rows: numbers, texts, Compare, Rows, Order, row.
-/
namespace Go.Proofs.Ytljfolepmkcjlaa
open Go.RowKit Plain Am IntWalk
set_option maxRecDepth 100000
set_option linter.unusedVariables false
set_option linter.unusedSimpArgs false

noncomputable def t5 : List (Nat × Ent) := [(97, e2 nuG)]
noncomputable def t9 : List (Nat × Ent) := [(81, e1 (gRow (fun l => .int .i64 (chkRow l)) fun _ => true)), (82, e1 (gRow (fun l => .str (allL l)) fun l => decide (l.length ≤ 16) && l.all fun v => chk v == 0))]
end Go.Proofs.Ytljfolepmkcjlaa

/-
  counterfoilref22.May; going over both lists (rebase.meet).
-/
namespace Go.Proofs.Ytljfolepmkcjlaa
open Go.RowKit Plain Am IntWalk
set_option maxRecDepth 100000
set_option linter.unusedVariables false
set_option linter.unusedSimpArgs false

end Go.Proofs.Ytljfolepmkcjlaa

/-
  The reference for two changesets: At, Check, Upon, Meets.
-/
namespace Go.Proofs.Ytljfolepmkcjlaa
open Go.RowKit Plain Am IntWalk
set_option maxRecDepth 100000
set_option linter.unusedVariables false
set_option linter.unusedSimpArgs false

theorem nil_le : RVle (.d (.lst 0 [] true)) (.d (.lst 4 [] false)) := by
  intro κ φ O h v r
  cases r with
  | d hr =>
    cases hr with
    | lst0 hf => exact .d (.lst0 (fun h => by cases h))
    | lst _ _ hf _ _ _ _ => have := (hf rfl).2; omega
end Go.Proofs.Ytljfolepmkcjlaa

/-
  The closures of rebase.Upon and rebase.Meets.
-/
namespace Go.Proofs.Ytljfolepmkcjlaa
open Go.RowKit Plain Am IntWalk
set_option maxRecDepth 100000
set_option linter.unusedVariables false
set_option linter.unusedSimpArgs false

noncomputable abbrev cuC : Code := bodyOf Try.f32
noncomputable abbrev cmC : Code := bodyOf Try.f37
noncomputable abbrev meC : Code := bodyOf Try.f31
noncomputable abbrev upC : Code := bodyOf Try.f12
def upO (win : Bool) (out : List DV) : List PObj := [.box 4 [.d (.bool win)], .box 22 [.own 2 4], .arr 46 4 out]
def upO0 (win : Bool) : List PObj := [.box 4 [.d (.bool win)], .box 22 [.d (.lst 0 [] true)]]
def meO (out : List DV) : List PObj := [.box 22 [.own 1 4], .arr 46 4 out]
def meO0 : List PObj := [.box 22 [.d (.lst 0 [] true)]]
def cloUv : RV := .clo (.func 32) [] [.ptr 0 0, .ptr 1 0]
def cloMv : RV := .clo (.func 37) [] [.ptr 0 0]
theorem bd_app6 {out : List DV} {z : DV} (h : out.length ≤ 1000000) : decide ((out.length + [z].length) * 88 ≤ 2 ^ 38) = true := decide_eq_true (by simp only [List.length_singleton]; omega)
theorem cu_nil (x : Chg) (win : Bool) (out : List DV) (ho : out.length ≤ 1000000) : C Try.prog 32 [.d (chD x), .d .nilp, .ptr 0 0, .ptr 1 0] (upO win out) (fun r o => r = .tup [] ∧ o = [.box 4 [.d (.bool win)], .box 22 [.own 3 4], .gone, .arr 46 4 (out ++ [chD x])]) := by
  have ok := cfT_ok t2_ok
  refine C_of_run (fn := Try.f32) (body := cuC) true (by kernel_rfl) (by kernel_rfl) (by kernel_rfl) ?_
  exact WK.fin ok 1000 0 [] [decide ((out.length + [DV.agg [DV.str x.t, rD x.k, rD x.o, rD x.n]].length) * 88 ≤ 2 ^ 38)] [] rfl (by kernel_rfl : runEnd (cfT t2) true _ 1000 0 _ _ (ini 28 [.d (chD x), .d .nilp, .ptr 0 0, .ptr 1 0] (upO win out)) = some (RV.tup [], [PObj.box 4 [RV.d (DV.bool win)], PObj.box 22 [RV.own 3 4], PObj.gone, PObj.arr 46 4 (out ++ [DV.agg [DV.str x.1, DV.lst 3 (List.map vD x.2) false, DV.lst 3 (List.map vD x.3) false, DV.lst 3 (List.map vD x.4) false]])], _, _)) ⟨(by exact bd_app6 ho), trivial⟩ trivial ⟨rfl, rfl⟩
theorem cu_yes (x y : Chg) (hx : Chg.ok x) (hy : Chg.ok y) (out : List DV) (ho : out.length ≤ 1000000) (hn : x.n ≠ y.n) : C Try.prog 32 [.d (chD x), .iptr (chD y) 0, .ptr 0 0, .ptr 1 0] (upO true out) (fun r o => r = .tup [] ∧ o = [.box 4 [.d (.bool true)], .box 22 [.own 3 4], .gone, .arr 46 4 (out ++ [chD ⟨x.t, x.k, y.n, x.n⟩])]) := by
  have ok := cfT_ok t2_ok
  refine C_of_run (fn := Try.f32) (body := cuC) true (by kernel_rfl) (by kernel_rfl) (by kernel_rfl) ?_
  rcases Bool.eq_false_or_eq_true (decide (x.n = y.n) : Bool) with h23 | h23
  · skip
    exact WK.fin ok 1000 0 [(15, RV.d (DV.bool false)), (22, RV.d (DV.bool (decide (x.n = y.n)))), (23, RV.d (DV.bool true))] [isR (DV.lst 3 (List.map vD x.4) false), isR (DV.lst 3 (List.map vD y.4) false)] [(RV.d (DV.bool false), RV.d (DV.bool false)), (RV.d (DV.bool (decide (unR (rD x.n) = unR ((chD y).cells.getD 3 DV.nilp)))), RV.d (DV.bool (decide (x.n = y.n)))), (RV.d (DV.bool (decide (x.n = y.n))), RV.d (DV.bool true))] rfl (by kernel_rfl : runEnd (cfT t2) true _ 1000 0 _ _ (ini 28 [.d (chD x), .iptr (chD y) 0, .ptr 0 0, .ptr 1 0] (upO true out)) = some (RV.tup [], [PObj.box 4 [RV.d (DV.bool true)], PObj.box 22 [RV.own 2 4], PObj.arr 46 4 out], _, _)) (by refine ⟨?_, ?_, trivial⟩ <;> (first | exact ok_n hx | exact ok_n hy | exact bd_app6 ho)) (by refine ⟨?_, ?_, le_bool h23, trivial⟩ <;> (first | exact le_bool rfl | exact ov_E x.n y.n)) (by first | exact absurd (of_decide_eq_true h23) hn | exact ⟨rfl, rfl⟩)
  · skip
    exact WK.fin ok 1000 0 [(15, RV.d (DV.bool false)), (22, RV.d (DV.bool (decide (x.n = y.n)))), (23, RV.d (DV.bool false))] [isR (DV.lst 3 (List.map vD x.4) false), isR (DV.lst 3 (List.map vD y.4) false), decide ((out.length + [DV.agg [DV.str x.t, rD x.k, (chD y).cells.getD 3 DV.nilp, rD x.n]].length) * 88 ≤ 2 ^ 38)] [(RV.d (DV.bool false), RV.d (DV.bool false)), (RV.d (DV.bool (decide (unR (rD x.n) = unR ((chD y).cells.getD 3 DV.nilp)))), RV.d (DV.bool (decide (x.n = y.n)))), (RV.d (DV.bool (decide (x.n = y.n))), RV.d (DV.bool false))] rfl (by kernel_rfl : runEnd (cfT t2) true _ 1000 0 _ _ (ini 28 [.d (chD x), .iptr (chD y) 0, .ptr 0 0, .ptr 1 0] (upO true out)) = some (RV.tup [], [PObj.box 4 [RV.d (DV.bool true)], PObj.box 22 [RV.own 3 4], PObj.gone, PObj.arr 46 4 (out ++ [DV.agg [DV.str x.1, DV.lst 3 (List.map vD x.2) false, DV.lst 3 (List.map vD y.4) false, DV.lst 3 (List.map vD x.4) false]])], _, _)) (by refine ⟨?_, ?_, ?_, trivial⟩ <;> (first | exact ok_n hx | exact ok_n hy | exact bd_app6 ho)) (by refine ⟨?_, ?_, le_bool h23, trivial⟩ <;> (first | exact le_bool rfl | exact ov_E x.n y.n)) (by first | exact absurd (of_decide_eq_true h23) hn | exact ⟨rfl, rfl⟩)
theorem cu_same (x y : Chg) (hx : Chg.ok x) (hy : Chg.ok y) (out : List DV) (hn : x.n = y.n) : C Try.prog 32 [.d (chD x), .iptr (chD y) 0, .ptr 0 0, .ptr 1 0] (upO true out) (fun r o => r = .tup [] ∧ o = upO true out) := by
  have ok := cfT_ok t2_ok
  have h23 : decide (x.n = y.n) = true := decide_eq_true hn
  refine C_of_run (fn := Try.f32) (body := cuC) true (by kernel_rfl) (by kernel_rfl) (by kernel_rfl) ?_
  exact WK.fin ok 2000 0 [(15, .d (.bool false)), (22, .d (.bool (decide (x.n = y.n)))), (23, .d (.bool true))] [isR (rD x.n), isR (rD y.n)] [(.d (.bool false), .d (.bool false)), (.d (.bool (decide (unR (rD x.n) = unR (rD y.n)))), .d (.bool (decide (x.n = y.n)))), (.d (.bool (decide (x.n = y.n))), .d (.bool true))] rfl (by kernel_rfl : runEnd (cfT t2) true _ 2000 0 _ _ (ini 28 [.d (chD x), .iptr (chD y) 0, .ptr 0 0, .ptr 1 0] (upO true out)) = some (.tup [], upO true out, _, _)) ⟨ok_n hx, ok_n hy, trivial⟩ ⟨le_bool rfl, ov_E _ _, le_bool h23, trivial⟩ ⟨rfl, rfl⟩
theorem cu_not (x y : Chg) (out : List DV) : C Try.prog 32 [.d (chD x), .iptr (chD y) 0, .ptr 0 0, .ptr 1 0] (upO false out) (fun r o => r = .tup [] ∧ o = upO false out) := by
  have ok := cfT_ok t2_ok
  refine C_of_run (fn := Try.f32) (body := cuC) true (by kernel_rfl) (by kernel_rfl) (by kernel_rfl) ?_
  exact WK.fin ok 1000 0 [] [] [] rfl (by kernel_rfl : runEnd (cfT t2) true _ 1000 0 _ _ (ini 28 [.d (chD x), .iptr (chD y) 0, .ptr 0 0, .ptr 1 0] (upO false out)) = some (RV.tup [], [PObj.box 4 [RV.d (DV.bool false)], PObj.box 22 [RV.own 2 4], PObj.arr 46 4 out], _, _)) trivial trivial ⟨rfl, rfl⟩
theorem cm_nil (x : Chg) (out : List DV) : C Try.prog 37 [.d (chD x), .d .nilp, .ptr 0 0] (meO out) (fun r o => r = .tup [] ∧ o = meO out) := by
  have ok := cfT_ok t2_ok
  refine C_of_run (fn := Try.f37) (body := cmC) true (by kernel_rfl) (by kernel_rfl) (by kernel_rfl) ?_
  exact WK.fin ok 1000 0 [] [] [] rfl (by kernel_rfl : runEnd (cfT t2) true _ 1000 0 _ _ (ini 21 [.d (chD x), .d .nilp, .ptr 0 0] (meO out)) = some (RV.tup [], [PObj.box 22 [RV.own 1 4], PObj.arr 46 4 out], _, _)) trivial trivial ⟨rfl, rfl⟩
theorem cm_yes (x y : Chg) (hx : Chg.ok x) (hy : Chg.ok y) (out : List DV) (ho : out.length ≤ 1000000) (hn : x.n ≠ y.n) : C Try.prog 37 [.d (chD x), .iptr (chD y) 0, .ptr 0 0] (meO out) (fun r o => r = .tup [] ∧ o = [.box 22 [.own 2 4], .gone, .arr 46 4 (out ++ [chD x])]) := by
  have ok := cfT_ok t2_ok
  refine C_of_run (fn := Try.f37) (body := cmC) true (by kernel_rfl) (by kernel_rfl) (by kernel_rfl) ?_
  rcases Bool.eq_false_or_eq_true (!decide (x.n = y.n) : Bool) with h16 | h16
  · skip
    exact WK.fin ok 1000 0 [(7, RV.d (DV.bool true)), (14, RV.d (DV.bool (decide (x.n = y.n)))), (16, RV.d (DV.bool true))] [isR (DV.lst 3 (List.map vD x.4) false), isR (DV.lst 3 (List.map vD y.4) false), decide ((out.length + [DV.agg [DV.str x.t, rD x.k, rD x.o, rD x.n]].length) * 88 ≤ 2 ^ 38)] [(RV.d (DV.bool true), RV.d (DV.bool true)), (RV.d (DV.bool (decide (unR (rD x.n) = unR ((chD y).cells.getD 3 DV.nilp)))), RV.d (DV.bool (decide (x.n = y.n)))), (RV.d (DV.bool !decide (x.n = y.n)), RV.d (DV.bool true))] rfl (by kernel_rfl : runEnd (cfT t2) true _ 1000 0 _ _ (ini 21 [.d (chD x), .iptr (chD y) 0, .ptr 0 0] (meO out)) = some (RV.tup [], [PObj.box 22 [RV.own 2 4], PObj.gone, PObj.arr 46 4 (out ++ [DV.agg [DV.str x.1, DV.lst 3 (List.map vD x.2) false, DV.lst 3 (List.map vD x.3) false, DV.lst 3 (List.map vD x.4) false]])], _, _)) (by refine ⟨?_, ?_, ?_, trivial⟩ <;> (first | exact ok_n hx | exact ok_n hy | exact bd_app6 ho)) (by refine ⟨?_, ?_, le_bool h16, trivial⟩ <;> (first | exact le_bool rfl | exact ov_E x.n y.n)) (by first | exact ⟨rfl, rfl⟩ | exact absurd (by simpa using h16) hn)
  · skip
    exact WK.fin ok 1000 0 [(7, RV.d (DV.bool true)), (14, RV.d (DV.bool (decide (x.n = y.n)))), (16, RV.d (DV.bool false))] [isR (DV.lst 3 (List.map vD x.4) false), isR (DV.lst 3 (List.map vD y.4) false)] [(RV.d (DV.bool true), RV.d (DV.bool true)), (RV.d (DV.bool (decide (unR (rD x.n) = unR ((chD y).cells.getD 3 DV.nilp)))), RV.d (DV.bool (decide (x.n = y.n)))), (RV.d (DV.bool !decide (x.n = y.n)), RV.d (DV.bool false))] rfl (by kernel_rfl : runEnd (cfT t2) true _ 1000 0 _ _ (ini 21 [.d (chD x), .iptr (chD y) 0, .ptr 0 0] (meO out)) = some (RV.tup [], [PObj.box 22 [RV.own 1 4], PObj.arr 46 4 out], _, _)) (by refine ⟨?_, ?_, trivial⟩ <;> (first | exact ok_n hx | exact ok_n hy | exact bd_app6 ho)) (by refine ⟨?_, ?_, le_bool h16, trivial⟩ <;> (first | exact le_bool rfl | exact ov_E x.n y.n)) (by first | exact ⟨rfl, rfl⟩ | exact absurd (by simpa using h16) hn)
theorem cm_same (x y : Chg) (hx : Chg.ok x) (hy : Chg.ok y) (out : List DV) (hn : x.n = y.n) : C Try.prog 37 [.d (chD x), .iptr (chD y) 0, .ptr 0 0] (meO out) (fun r o => r = .tup [] ∧ o = meO out) := by
  have ok := cfT_ok t2_ok
  have h16 : (!decide (x.n = y.n)) = false := by rw [decide_eq_true hn]; rfl
  refine C_of_run (fn := Try.f37) (body := cmC) true (by kernel_rfl) (by kernel_rfl) (by kernel_rfl) ?_
  exact WK.fin ok 2000 0 [(7, .d (.bool true)), (14, .d (.bool (decide (x.n = y.n)))), (16, .d (.bool false))] [isR (rD x.n), isR (rD y.n)] [(.d (.bool true), .d (.bool true)), (.d (.bool (decide (unR (rD x.n) = unR (rD y.n)))), .d (.bool (decide (x.n = y.n)))), (.d (.bool (!decide (x.n = y.n))), .d (.bool false))] rfl (by kernel_rfl : runEnd (cfT t2) true _ 2000 0 _ _ (ini 21 [.d (chD x), .iptr (chD y) 0, .ptr 0 0] (meO out)) = some (.tup [], meO out, _, _)) ⟨ok_n hx, ok_n hy, trivial⟩ ⟨le_bool rfl, ov_E _ _, le_bool h16, trivial⟩ ⟨rfl, rfl⟩

theorem upF_yes {win : Bool} {x y : Chg} (h : isS (upF win (x, some y)) = true) : win = true ∧ x.n ≠ y.n ∧ gF (upF win (x, some y)) = ⟨x.t, x.k, y.n, x.n⟩ := by
  by_cases hc : win = true ∧ x.n ≠ y.n
  · exact ⟨hc.1, hc.2, by simp [upF, gF, hc]⟩
  · simp only [upF, if_neg hc, isS] at h; cases h
theorem upF_no {win : Bool} {x y : Chg} (h : isN (upF win (x, some y)) = true) : win = false ∨ x.n = y.n := by
  by_cases hc : win = true ∧ x.n ≠ y.n
  · simp only [upF, if_pos hc, isN] at h; cases h
  · by_cases hw : win = true
    · right; by_cases hn : x.n = y.n
      · exact hn
      · exact absurd ⟨hw, hn⟩ hc
    · left; simpa using hw
theorem meF_yes {x y : Chg} (h : isS (meF (x, some y)) = true) : x.n ≠ y.n ∧ gF (meF (x, some y)) = x := by
  by_cases hc : x.n ≠ y.n
  · exact ⟨hc, by simp [meF, gF, hc]⟩
  · simp only [meF, if_neg hc, isS] at h; cases h
theorem meF_no {x y : Chg} (h : isN (meF (x, some y)) = true) : x.n = y.n := by
  by_cases hc : x.n ≠ y.n
  · simp only [meF, if_pos hc, isN] at h; cases h
  · simpa using hc

theorem cloU_ent (yes : Bool) : EntOk Try.prog 32 (cloU yes) := by
  intro a o r o' c hg hc
  unfold cloU at hg
  split at hg
  · rename_i x y b win l T els
    split at hg
    · simp only [Option.some.injEq, Prod.mk.injEq] at hg
      obtain ⟨rfl, rfl, rfl⟩ := hg
      have hb := nbE (hc (Nat.beq b 4) (by simp))
      have hl := nbE (hc (Nat.beq l 22) (by simp))
      have hT := nbE (hc (Nat.beq T 46) (by simp))
      have hn := of_decide_eq_true (hc (decide (els.length ≤ 1000000)) (by simp))
      subst hb hl hT
      obtain ⟨x, rfl, hx⟩ := isC_spec (hc (isC x) (by simp))
      exact cu_nil x win els hn
    · rename_i yd
      split at hg
      · simp only [Option.some.injEq, Prod.mk.injEq] at hg
        obtain ⟨rfl, rfl, rfl⟩ := hg
        have hb := nbE (hc (Nat.beq b 4) (by simp))
        have hl := nbE (hc (Nat.beq l 22) (by simp))
        have hT := nbE (hc (Nat.beq T 46) (by simp))
        have hn := of_decide_eq_true (hc (decide (els.length ≤ 1000000)) (by simp))
        have hS := hc (isS (upF win (toChg x, some (toChg yd)))) (by simp)
        subst hb hl hT
        obtain ⟨x, rfl, hx⟩ := isC_spec (hc (isC x) (by simp))
        obtain ⟨y, rfl, hy⟩ := isC_spec (hc (isC yd) (by simp))
        rw [toChg_chD, toChg_chD] at hS
        obtain ⟨rfl, h2, h3⟩ := upF_yes hS
        rw [toChg_chD, toChg_chD, h3]
        exact cu_yes x y hx hy els hn h2
      · simp only [Option.some.injEq, Prod.mk.injEq] at hg
        obtain ⟨rfl, rfl, rfl⟩ := hg
        have hb := nbE (hc (Nat.beq b 4) (by simp))
        have hl := nbE (hc (Nat.beq l 22) (by simp))
        have hT := nbE (hc (Nat.beq T 46) (by simp))
        have hS := hc (isN (upF win (toChg x, some (toChg yd)))) (by simp)
        subst hb hl hT
        obtain ⟨x, rfl, hx⟩ := isC_spec (hc (isC x) (by simp))
        obtain ⟨y, rfl, hy⟩ := isC_spec (hc (isC yd) (by simp))
        rw [toChg_chD, toChg_chD] at hS
        cases win with
        | false => exact cu_not x y els
        | true =>
          rcases upF_no hS with h | h
          · cases h
          · exact cu_same x y hx hy els h
    · cases hg
  · cases hg
theorem cloM_ent (yes : Bool) : EntOk Try.prog 37 (cloM yes) := by
  intro a o r o' c hg hc
  unfold cloM at hg
  split at hg
  · rename_i x y l T els
    split at hg
    · simp only [Option.some.injEq, Prod.mk.injEq] at hg
      obtain ⟨rfl, rfl, rfl⟩ := hg
      have hl := nbE (hc (Nat.beq l 22) (by simp))
      have hT := nbE (hc (Nat.beq T 46) (by simp))
      subst hl hT
      obtain ⟨x, rfl, hx⟩ := isC_spec (hc (isC x) (by simp))
      exact cm_nil x els
    · rename_i yd
      split at hg
      · simp only [Option.some.injEq, Prod.mk.injEq] at hg
        obtain ⟨rfl, rfl, rfl⟩ := hg
        have hl := nbE (hc (Nat.beq l 22) (by simp))
        have hT := nbE (hc (Nat.beq T 46) (by simp))
        have hn := of_decide_eq_true (hc (decide (els.length ≤ 1000000)) (by simp))
        have hS := hc (isS (meF (toChg x, some (toChg yd)))) (by simp)
        subst hl hT
        obtain ⟨x, rfl, hx⟩ := isC_spec (hc (isC x) (by simp))
        obtain ⟨y, rfl, hy⟩ := isC_spec (hc (isC yd) (by simp))
        rw [toChg_chD, toChg_chD] at hS
        obtain ⟨h2, h3⟩ := meF_yes hS
        rw [toChg_chD, toChg_chD, h3]
        exact cm_yes x y hx hy els hn h2
      · simp only [Option.some.injEq, Prod.mk.injEq] at hg
        obtain ⟨rfl, rfl, rfl⟩ := hg
        have hl := nbE (hc (Nat.beq l 22) (by simp))
        have hT := nbE (hc (Nat.beq T 46) (by simp))
        have hS := hc (isN (meF (toChg x, some (toChg yd)))) (by simp)
        subst hl hT
        obtain ⟨x, rfl, hx⟩ := isC_spec (hc (isC x) (by simp))
        obtain ⟨y, rfl, hy⟩ := isC_spec (hc (isC yd) (by simp))
        rw [toChg_chD, toChg_chD] at hS
        exact cm_same x y hx hy els (meF_no hS)
    · cases hg
  · cases hg
noncomputable def tc (b : Bool) : List (Nat × Ent) := (32, cloU b) :: (37, cloM b) :: (59, e2 ccG) :: (17, e1 ckG) :: t2
theorem tc_ok (b : Bool) : EntsOk Try.prog (tc b) := .cons (cloU_ent b) (.cons (cloM_ent b) (.cons (ccG_ent ro_c) (.cons ck_ent t2_ok)))
noncomputable def tcY : List (Nat × Ent) := tc true
noncomputable def tcN : List (Nat × Ent) := tc false
theorem tcY_ok : EntsOk Try.prog tcY := tc_ok true
theorem tcN_ok : EntsOk Try.prog tcN := tc_ok false
end Go.Proofs.Ytljfolepmkcjlaa

/-
  A box whose cell is a nil slice, as one with an empty array of one's own.
-/
namespace Go.Am
open Go.RowKit

/-- A box whose cell is a nil slice: the same with an array of one's own, that is empty. -/
theorem FRel.nilBox {κ : Kap} {φ : Phi} {w : World} {s : SSt} {a : Act} (F : FRel κ φ w s a) {i j sl T ty sz sz' : Nat} {cs : List RV} (hO : s.O i = some (.box T cs)) (hj : cs[j]? = some (.d (.lst sz' [] true))) (hs : s.O sl = none) :
    FRel κ (setP φ sl .nil) w { s with O := setT (setT s.O sl (some (.arr ty sz []))) i (some (.box T (cs.set j (.own sl sz)))) } a ∧ Kp φ s.O (setP φ sl .nil) (setT (setT s.O sl (some (.arr ty sz []))) i (some (.box T (cs.set j (.own sl sz))))) := by
  have hne : i ≠ sl := fun e => by subst e; rw [hO] at hs; cases hs
  have hun : φ sl = .un := by have := F.objs sl; rw [hs] at this; exact this
  obtain ⟨q1, q2, _⟩ := F.upd1 (i := sl) (p := .arr ty sz []) (κ' := κ) (φ' := setP φ sl .nil) (w' := w) (Nat.le_refl _) (fun _ h => h) (fun _ _ _ _ h => h) (fun _ _ h => h) (fun _ _ _ _ => rfl)
    (fun j hj => setP_ne _ _ hj) (fun h => absurd hun h) (fun _ c _ fz hc => ⟨c, fz, hc, rfl⟩) (fun h => absurd hun h) F.bnd (fun M => .inl ⟨setP_same _ _ _, rfl⟩)
  have hO1 : (setT s.O sl (some (.arr ty sz []))) i = some (.box T cs) := by rw [setT_ne _ _ hne]; exact hO
  have hM : Mono κ (setP φ sl .nil) (setT s.O sl (some (.arr ty sz []))) w.heap κ (setP φ sl .nil) (setT (setT s.O sl (some (.arr ty sz []))) i (some (.box T (cs.set j (.own sl sz))))) w.heap :=
    ⟨fun _ hb => ⟨hb, rfl⟩, fun _ c _ fz hc => ⟨c, fz, hc, rfl⟩, fun _ _ => rfl, fun k n _ hn => by
      by_cases e : k = i
      · subst e; rw [setT_same] at hn; simp [PObj.len?] at hn
      · rw [setT_ne _ _ e] at hn; exact hn⟩
  refine ⟨⟨fun x => (q1.regs x).mono hM, fun k => ?_, q1.bnd, q1.n, q1.df⟩, q2.kp.trans hM.kp⟩
  dsimp only
  by_cases e : k = i
  · subst e
    rw [setT_same]
    have ho := q1.objs k
    simp only at ho
    rw [hO1] at ho
    obtain ⟨b, c, h1, h2, h3, h4, h5, h6⟩ := ho
    refine ⟨b, c, h1, h2, h3, by simpa using h4, h5, fun n x v hx hv => ?_⟩
    rw [List.getElem?_set] at hx
    by_cases e : j = n
    · subst e
      have hr := h6 j _ v hj hv
      have hx' : x = .own sl sz := by
        split at hx
        · split at hx
          · simpa using hx.symm
          · simp at hx
        · exact absurd rfl (by assumption)
      subst hx'
      cases hr with
      | d hr =>
        cases hr with
        | lst0 hf => have := (hf rfl).1; subst this; exact .ownNil (setP_same _ _ _)
        | lst _ _ hf hc _ _ _ => have := (hf rfl).1; simp only [List.length_nil] at this; subst this; exact .ownNil (setP_same _ _ _)
    · rw [if_neg e] at hx
      exact (h6 n x v hx hv).mono hM
  · rw [setT_ne _ _ e]
    exact (q1.objs k).mono hM (fun b hb => ⟨hb, rfl⟩) rfl
theorem WK.nilBox {P : Program} {m : Nat} {k : List It} {s s' : SSt} {Q : SSt → Prop} {i j sl T ty sz sz' : Nat} {cs : List RV} (hO : s.O i = some (.box T cs)) (hj : cs[j]? = some (.d (.lst sz' [] true))) (hs : s.O sl = none)
    (he : s' = { s with O := setT (setT s.O sl (some (.arr ty sz []))) i (some (.box T (cs.set j (.own sl sz)))) }) (hk : WK P m k s' Q) : WK P m k s Q := by
  subst he
  intro κ φ w a F b fs
  obtain ⟨F', K⟩ := F.nilBox (ty := ty) (sz := sz) hO hj hs
  obtain ⟨e, a', w', κ', φ', s', h1, h2, h3, h4, h5, h6⟩ := hk κ _ w a F' b fs
  exact ⟨e, a', w', κ', φ', s', h1, h2, h3, h4, (K.m m).trans h5, h6⟩
end Go.Am
