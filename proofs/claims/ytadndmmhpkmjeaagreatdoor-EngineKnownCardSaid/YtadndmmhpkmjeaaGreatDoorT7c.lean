/-
  The tie: what the row lists is what the program's own text lays.
-/
import Derived.Test.YtadndmmhpkmjeaaGreatDoorT3c
import Derived.Test.YtadndmmhpkmjeaaGreatDoorT5c
import Derived.Test.YtadndmmhpkmjeaaGreatDoorT6c

namespace Go.Proofs.YtadndmmhpkmjeaaGreatDoor
open Go
theorem varsId_is : varsId Tryz.prog = 620 := by kernel_rfl
theorem tieL : Tryz.prog.laidByTextLater LL [.data, .listed, .sentinel, .sentinel, .data, .data, .data, .data] true := by
  have hn := t6
  have hg := varsId_spec t5
  unfold varsNamedLaterB at hn
  cases hc : (Tryz.prog.funcs[varsId Tryz.prog]?).bind (·.body) with
  | none => simp [hc] at hn
  | some code =>
   cases hs : code.laysInOrder [] with
   | none => simp [hc, hs] at hn
   | some stored =>
    simp only [hc, hs, Bool.and_eq_true] at hn
    refine ⟨⟨t1, t2, t3, t4⟩, varsId Tryz.prog, code, stored, hg, hc, ⟨hs, hn.1.1, hn.1.2⟩, hn.2, fun os tape _ => ?_⟩
    obtain ⟨n, v, w', hr, hm⟩ := vars_run os tape
    refine ⟨n, v, w', by rw [varsId_is]; exact hr, ?_⟩
    rw [MakeChecks.laidMetH_plain _ _ _ (by kernel_rfl), hm]
    exact laidMet_of_run' 8 t8 t9

theorem pin_first : Tryz.pinned.checked.prog.pinnedFits "unicode/utf8.first" = true := by kernel_rfl
theorem noOwn : Tryz.pinned.checked.prog.headLifts.contains "ownunsafe" = false := by kernel_rfl
theorem fitsL : Tryz.pinned.checked.prog.listedFits [("strings.asciiSpace", Rows.laid_strings_asciiSpace), ("unicode.White_Space", Rows.laid_unicode_White_Space), ("strconv.ErrSyntax", Rows.laid_strconv_ErrSyntax), ("strconv.ErrRange", Rows.laid_strconv_ErrRange), ("internal/strconv.uint64pow10", Rows.laid_internal_strconv_uint64pow10), ("math/bits.deBruijn32tab", Rows.laid_math_bits_deBruijn32tab), ("math/bits.deBruijn64tab", Rows.laid_math_bits_deBruijn64tab), ("unicode/utf8.first", Rows.laid_unicode_utf8_first), ("unicode/utf8.acceptRanges", Rows.laid_unicode_utf8_acceptRanges)] = true := by
  unfold Program.listedFits
  rw [noOwn]
  kernel_rfl
theorem row_tieL : Rows.engineKnownRow.laidByTextAt .later Tryz.pinned [.data, .listed, .sentinel, .sentinel, .data, .data, .data, .pinned, .data] true :=
  OpenClaim.laidByTextAt_pinned rfl rfl tieL rfl rfl rfl rfl (fun y hy _e => by
    simp only [Rows.engineKnownRow, List.zip_cons_cons, List.zip_nil_right, List.mem_cons, List.mem_nil_iff, or_false] at hy
    rcases hy with rfl | rfl | rfl | rfl | rfl | rfl | rfl | rfl | rfl
    · cases _e
    · cases _e
    · cases _e
    · cases _e
    · cases _e
    · cases _e
    · cases _e
    · exact ⟨pin_first, by kernel_rfl⟩
    · cases _e) fitsL
end Go.Proofs.YtadndmmhpkmjeaaGreatDoor
