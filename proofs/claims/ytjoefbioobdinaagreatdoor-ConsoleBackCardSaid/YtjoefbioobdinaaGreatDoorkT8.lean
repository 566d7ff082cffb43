/-
  The tie: what the row lists is what the program's own text lays.
-/
import Derived.Test.YtjoefbioobdinaaGreatDoorkT3
import Derived.Test.YtjoefbioobdinaaGreatDoorkT6
import Derived.Test.YtjoefbioobdinaaGreatDoorkT7
namespace Go.Proofs.YtjoefbioobdinaaGreatDoor
open Go
theorem aaO:Tryz.prog.laidByTextLater LL [.data,.data,.data,.sentinel,.sentinel,.data,.data,.listed] true:=by
 have hn:=t6;have hg:=varsId_spec t5;unfold varsNamedLaterB at hn;cases hc:(Tryz.prog.funcs[varsId Tryz.prog]?).bind (·.body) with
 | none=>simp [hc] at hn
 | some code=>
  cases hs:code.laysInOrder [] with
  | none=>simp [hc,hs] at hn
  | some stored=>
   simp only [hc,hs,Bool.and_eq_true] at hn;refine ⟨⟨t1,t2,t3,t4⟩,varsId Tryz.prog,code,stored,hg,hc,⟨hs,hn.1.1,hn.1.2⟩,hn.2,fun os tape _=>?_⟩;obtain ⟨n,v,w',hr,hm⟩:=Ns os tape;refine ⟨n,v,w',by rw [Au];exact hr,?_⟩;rw [MakeChecks.laidMetH_plain _ _ _ (by kernel_rfl),hm];exact laidMet_of_run' 8 t8 t9
theorem JE:Tryz.pinned.checked.prog.pinnedFits "unicode/utf8.first" = true:=by kernel_rfl
theorem Yc:Tryz.pinned.checked.prog.headLifts.contains "ownunsafe" = false:=by kernel_rfl
theorem Yd:Tryz.pinned.checked.prog.listedFits [("internal/strconv.uint64pow10",Rows.laid_internal_strconv_uint64pow10),("math/bits.deBruijn32tab",Rows.laid_math_bits_deBruijn32tab),("math/bits.deBruijn64tab",Rows.laid_math_bits_deBruijn64tab),("strconv.ErrSyntax",Rows.laid_strconv_ErrSyntax),("strconv.ErrRange",Rows.laid_strconv_ErrRange),("unicode/utf8.first",Rows.laid_unicode_utf8_first),("unicode/utf8.acceptRanges",Rows.laid_unicode_utf8_acceptRanges),("strings.asciiSpace",Rows.laid_strings_asciiSpace),("unicode.White_Space",Rows.laid_unicode_White_Space)]=true:=by
 unfold Program.listedFits;rw [Yc]
 kernel_rfl
end Go.Proofs.YtjoefbioobdinaaGreatDoor
