/-
  DERIVED: THE SHELF's CONTRACTS AT THIS DUMP, IN PLAIN WORDS (tools/lay-plain.mjs out of 'YtmfodaenlkcjdaaGreatDoorShelf.lean', which tools/lay-shelf.mjs wrote): THE SAME DECLARATIONS UNDER THE SAME NAMES: 'import', 'namespace', 'open', 'def', 'theorem' AND NOTHING ELSE: no command of the shelf's: FOR A HAND-IN. Each laying: the table of numbers ('.._ren') and one theorem, a field a fact of the dump's own or the kernel's comparison; each contract: ONE APPLICATION.
-/
import Derived.Test.YtmfodaenlkcjdaaGreatDoorProg
import Derived.Shelf.Strings.Builder1
import Derived.Shelf.Strings.Builder2
import Derived.Shelf.Small.Bits
import Derived.Shelf.Small.Strs
import Derived.Shelf.Strings.BuilderF
import Derived.Shelf.Strings.Builder2Cap
import Derived.Shelf.Strconv.Itoa0
import Derived.Shelf.Strconv.Itoa1
import Derived.Shelf.LaysM
import Derived.Shelf.Strconv.Itoa2
import Derived.Shelf.Strconv.Itoa3
import Derived.Shelf.Strconv.Itoa4
import Derived.Shelf.Strconv.Clone
import Derived.Shelf.Strings.Search1
import Derived.Shelf.Strings.Search2
import Derived.Shelf.Strings.Search3
import Derived.Shelf.Strings.Count
import Derived.Shelf.Strings.Shaped
import Derived.Shelf.Strings.Prefix
import Derived.Shelf.Strings.Fields
import Derived.Shelf.Unicode.Latin
import Derived.Shelf.Bits.Mul64
import Derived.Shelf.Strings.Repeat
import Derived.Shelf.Unicode.DecodeSlow

namespace Go.Proofs
open Go.Shelf
def Tryz.lays106_ren : Go.Shelf.Ren := ⟨fun | 106 => 95 | 213 => 222 | 265 => 346 | n => n, fun | 9 => 9 | 3 => 3 | n => n, fun | n => n⟩
theorem Tryz.lays106 : Go.Proofs.Lays.n106 Tryz.prog Tryz.lays106_ren := {
  mixed := by kernel_rfl
  f106 := Tryz.func95.trans (congrArg some (by kernel_rfl))
  f213 := Tryz.func222.trans (congrArg some (by kernel_rfl))
  f265 := Tryz.func346.trans (congrArg some (by kernel_rfl))
  t3 := Tryz.underlying3
  a3 := Tryz.isAgg3
  z3 := Tryz.sizeOf3
  v3 := Tryz.zeroValue3
  t9 := Tryz.underlying9
  a9 := Tryz.isAgg9
  z9 := Tryz.sizeOf9
  v9 := Tryz.zeroValue9 }
open Go.RowKit in
/-- strings.Compare: "Compare returns an integer comparing two strings lexicographically. The result will be 0 if a == b, -1 if a < b, and +1 if a > b.": IT RETURNS 'Lib.compareBytes a b'; the world is as it was. (LAID: no walk: one application.) -/
theorem Tryz.strings_Compare (a b : ByteArray) (w : World) :
    Calls Tryz.prog 95 #[.string a, .string b] w fun e w' => e = .returned (.int .i64 (Lib.compareBytes a.data.toList b.data.toList)) ∧ w' = w := Any.strings_Compare Tryz.lays106 a b w
def Tryz.laysM284_ren : Go.Shelf.Ren := ⟨fun | 284 => 579 | 129 => 446 | 317 => 595 | 318 => 596 | n => n, fun | 53 => 129 | 3 => 3 | 212 => 642 | 0 => 0 | 4 => 4 | 46 => 370 | 5 => 5 | 9 => 9 | n => n, fun | 17 => 4 | n => n⟩
theorem Tryz.laysM284 : Go.Proofs.LaysM.n284 Tryz.prog Tryz.laysM284_ren := {
  mixed := by kernel_rfl
  f129 := Tryz.func446.trans (congrArg some (by kernel_rfl))
  f284 := Tryz.func579.trans (congrArg some (by kernel_rfl))
  f317 := Tryz.func595.trans (congrArg some (by kernel_rfl))
  f318 := Tryz.func596.trans (congrArg some (by kernel_rfl))
  t0 := Tryz.underlying0
  a0 := Tryz.isAgg0
  z0 := Tryz.sizeOf0
  v0 := Tryz.zeroValue0
  t3 := Tryz.underlying3
  a3 := Tryz.isAgg3
  z3 := Tryz.sizeOf3
  v3 := Tryz.zeroValue3
  t4 := Tryz.underlying4
  a4 := Tryz.isAgg4
  z4 := Tryz.sizeOf4
  v4 := Tryz.zeroValue4
  t5 := Tryz.underlying5
  a5 := Tryz.isAgg5
  z5 := Tryz.sizeOf5
  v5 := Tryz.zeroValue5
  t9 := Tryz.underlying9
  a9 := Tryz.isAgg9
  z9 := Tryz.sizeOf9
  v9 := Tryz.zeroValue9
  t46 := Tryz.underlying370
  a46 := Tryz.isAgg370
  z46 := Tryz.sizeOf370
  v46 := Tryz.zeroValue370
  t53 := Tryz.underlying129
  a53 := Tryz.isAgg129
  z53 := Tryz.sizeOf129
  v53 := Tryz.zeroValue129
  t212 := Tryz.underlying642
  a212 := Tryz.isAgg642
  z212 := Tryz.sizeOf642
  v212 := Tryz.zeroValue642
  g17 := by kernel_rfl
  i0 := by kernel_rfl
  i3 := by kernel_rfl
  i4 := by kernel_rfl
  i5 := by kernel_rfl
  i9 := by kernel_rfl
  i46 := by kernel_rfl
  i53 := by kernel_rfl
  i212 := by kernel_rfl
  m17 := by kernel_rfl }
open Go.Lib in
/-- internal/strconv.numDigits, at a d that is not 0: THE NUMBER OF d's DECIMAL DIGITS. The world is as it was. (LAID: no walk: one application.) -/
theorem Tryz.internal_strconv_numDigits (u : Nat) (h1 : 1 ≤ u) (h2 : u < 18446744073709551616) (w : World) (htab : Lib.TabIs Tryz.prog w "internal/strconv.uint64pow10" .u64 Lib.pow10Tab) :
    Calls Tryz.prog 579 #[.int .u64 u] w fun e w' => e = .returned (.int .i64 (Lib.nDigits u)) ∧ w' = w := Any.internal_strconv_numDigits Tryz.laysM284 u h1 h2 w htab
def Tryz.lays217_ren : Go.Shelf.Ren := ⟨fun | 217 => 565 | 266 => 582 | n => n, fun | 9 => 9 | 5 => 5 | 3 => 3 | n => n, fun | n => n⟩
theorem Tryz.lays217 : Go.Proofs.Lays.n217 Tryz.prog Tryz.lays217_ren := {
  mixed := by kernel_rfl
  f217 := Tryz.func565.trans (congrArg some (by kernel_rfl))
  f266 := Tryz.func582.trans (congrArg some (by kernel_rfl))
  t3 := Tryz.underlying3
  a3 := Tryz.isAgg3
  z3 := Tryz.sizeOf3
  v3 := Tryz.zeroValue3
  t5 := Tryz.underlying5
  a5 := Tryz.isAgg5
  z5 := Tryz.sizeOf5
  v5 := Tryz.zeroValue5
  t9 := Tryz.underlying9
  a9 := Tryz.isAgg9
  z9 := Tryz.sizeOf9
  v9 := Tryz.zeroValue9 }
open Go.RowKit Go.Lib in
/-- internal/stringslite.IndexByte (what strings.IndexByte calls): IT RETURNS 'Lib.indexByte s c'; the world is as it was. (LAID: no walk: one application.) -/
theorem Tryz.stringslite_IndexByte (s : ByteArray) (c : Int) (w : World) :
    Calls Tryz.prog 565 #[.string s, .int .u8 c] w fun e w' => e = .returned (.int .i64 (Lib.indexByte s.data.toList c.toNat.toUInt8)) ∧ w' = w := Any.stringslite_IndexByte Tryz.lays217 s c w
def Tryz.lays138_ren : Go.Shelf.Ren := ⟨fun | 138 => 519 | 195 => 554 | 218 => 555 | 143 => 520 | 219 => 556 | 217 => 565 | 225 => 574 | 224 => 575 | 267 => 576 | 266 => 582 | 314 => 593 | n => n, fun | 9 => 9 | 3 => 3 | 4 => 4 | 5 => 5 | 0 => 0 | 46 => 370 | 146 => 472 | 51 => 222 | n => n, fun | 1 => 0 | n => n⟩
theorem Tryz.lays138 : Go.Proofs.Lays.n138 Tryz.prog Tryz.lays138_ren := {
  mixed := by kernel_rfl
  f138 := Tryz.func519.trans (congrArg some (by kernel_rfl))
  f143 := Tryz.func520.trans (congrArg some (by kernel_rfl))
  f195 := Tryz.func554.trans (congrArg some (by kernel_rfl))
  f217 := Tryz.func565.trans (congrArg some (by kernel_rfl))
  f218 := Tryz.func555.trans (congrArg some (by kernel_rfl))
  f219 := Tryz.func556.trans (congrArg some (by kernel_rfl))
  f224 := Tryz.func575.trans (congrArg some (by kernel_rfl))
  f225 := Tryz.func574.trans (congrArg some (by kernel_rfl))
  f266 := Tryz.func582.trans (congrArg some (by kernel_rfl))
  f267 := Tryz.func576.trans (congrArg some (by kernel_rfl))
  f314 := Tryz.func593.trans (congrArg some (by kernel_rfl))
  t0 := Tryz.underlying0
  a0 := Tryz.isAgg0
  z0 := Tryz.sizeOf0
  v0 := Tryz.zeroValue0
  t3 := Tryz.underlying3
  a3 := Tryz.isAgg3
  z3 := Tryz.sizeOf3
  v3 := Tryz.zeroValue3
  t4 := Tryz.underlying4
  a4 := Tryz.isAgg4
  z4 := Tryz.sizeOf4
  v4 := Tryz.zeroValue4
  t5 := Tryz.underlying5
  a5 := Tryz.isAgg5
  z5 := Tryz.sizeOf5
  v5 := Tryz.zeroValue5
  t9 := Tryz.underlying9
  a9 := Tryz.isAgg9
  z9 := Tryz.sizeOf9
  v9 := Tryz.zeroValue9
  t46 := Tryz.underlying370
  a46 := Tryz.isAgg370
  z46 := Tryz.sizeOf370
  v46 := Tryz.zeroValue370
  t51 := Tryz.underlying222
  a51 := Tryz.isAgg222
  z51 := Tryz.sizeOf222
  v51 := Tryz.zeroValue222
  t146 := Tryz.underlying472
  a146 := Tryz.isAgg472
  z146 := Tryz.sizeOf472
  v146 := Tryz.zeroValue472
  g1 := by kernel_rfl }
open Go.RowKit Go.Lib in
/-- strings.Count AT A substr OF ONE BYTE ('hp'): "Count counts the number of non-overlapping instances of substr in s.": IT RETURNS 'Lib.countByte s (that byte)'; the world is as it was. ✋ NO CONTRACT HERE YET at an empty substr (utf8.RuneCountInString) or at a longer one (a loop over strings.Index). (LAID: no walk: one application.) -/
theorem Tryz.strings_Count_one (s : ByteArray) (c : UInt8) (w : World) :
    Calls Tryz.prog 519 #[.string s, .string ⟨#[c]⟩] w fun e w' => e = .returned (.int .i64 (Lib.countByte s.data.toList c)) ∧ w' = w := Any.strings_Count_one Tryz.lays138 s c w
def Tryz.lays157_ren : Go.Shelf.Ren := ⟨fun | 157 => 568 | 229 => 584 | 199 => 585 | 261 => 599 | 311 => 607 | 312 => 608 | n => n, fun | 9 => 9 | 31 => 35 | 3 => 3 | 5 => 5 | 4 => 4 | 119 => 626 | 0 => 0 | 40 => 635 | 152 => 644 | 21 => 21 | 154 => 646 | 51 => 222 | 141 => 648 | 196 => 657 | 193 => 654 | 198 => 660 | 49 => 658 | 194 => 655 | 201 => 663 | 226 => 669 | 46 => 370 | 227 => 670 | n => n, fun | 0 => 3 | 6 => 5 | n => n⟩
theorem Tryz.lays157 : Go.Proofs.Lays.n157 Tryz.prog Tryz.lays157_ren := {
  mixed := by kernel_rfl
  f157 := Tryz.func568.trans (congrArg some (by kernel_rfl))
  f199 := Tryz.func585.trans (congrArg some (by kernel_rfl))
  f229 := Tryz.func584.trans (congrArg some (by kernel_rfl))
  f261 := Tryz.func599.trans (congrArg some (by kernel_rfl))
  f311 := Tryz.func607.trans (congrArg some (by kernel_rfl))
  f312 := Tryz.func608.trans (congrArg some (by kernel_rfl))
  t0 := Tryz.underlying0
  a0 := Tryz.isAgg0
  z0 := Tryz.sizeOf0
  v0 := Tryz.zeroValue0
  t3 := Tryz.underlying3
  a3 := Tryz.isAgg3
  z3 := Tryz.sizeOf3
  v3 := Tryz.zeroValue3
  t4 := Tryz.underlying4
  a4 := Tryz.isAgg4
  z4 := Tryz.sizeOf4
  v4 := Tryz.zeroValue4
  t5 := Tryz.underlying5
  a5 := Tryz.isAgg5
  z5 := Tryz.sizeOf5
  v5 := Tryz.zeroValue5
  t9 := Tryz.underlying9
  a9 := Tryz.isAgg9
  z9 := Tryz.sizeOf9
  v9 := Tryz.zeroValue9
  t21 := Tryz.underlying21
  a21 := Tryz.isAgg21
  z21 := Tryz.sizeOf21
  v21 := Tryz.zeroValue21
  t31 := Tryz.underlying35
  a31 := Tryz.isAgg35
  z31 := Tryz.sizeOf35
  v31 := Tryz.zeroValue35
  t40 := Tryz.underlying635
  a40 := Tryz.isAgg635
  z40 := Tryz.sizeOf635
  v40 := Tryz.zeroValue635
  t46 := Tryz.underlying370
  a46 := Tryz.isAgg370
  z46 := Tryz.sizeOf370
  v46 := Tryz.zeroValue370
  t49 := Tryz.underlying658
  a49 := Tryz.isAgg658
  z49 := Tryz.sizeOf658
  v49 := Tryz.zeroValue658
  t51 := Tryz.underlying222
  a51 := Tryz.isAgg222
  z51 := Tryz.sizeOf222
  v51 := Tryz.zeroValue222
  t119 := Tryz.underlying626
  a119 := Tryz.isAgg626
  z119 := Tryz.sizeOf626
  t141 := Tryz.underlying648
  a141 := Tryz.isAgg648
  z141 := Tryz.sizeOf648
  v141 := Tryz.zeroValue648
  t152 := Tryz.underlying644
  a152 := Tryz.isAgg644
  z152 := Tryz.sizeOf644
  v152 := Tryz.zeroValue644
  t154 := Tryz.underlying646
  a154 := Tryz.isAgg646
  z154 := Tryz.sizeOf646
  v154 := Tryz.zeroValue646
  t193 := Tryz.underlying654
  a193 := Tryz.isAgg654
  z193 := Tryz.sizeOf654
  v193 := Tryz.zeroValue654
  t194 := Tryz.underlying655
  a194 := Tryz.isAgg655
  z194 := Tryz.sizeOf655
  v194 := Tryz.zeroValue655
  t196 := Tryz.underlying657
  a196 := Tryz.isAgg657
  z196 := Tryz.sizeOf657
  v196 := Tryz.zeroValue657
  t198 := Tryz.underlying660
  a198 := Tryz.isAgg660
  z198 := Tryz.sizeOf660
  v198 := Tryz.zeroValue660
  t201 := Tryz.underlying663
  a201 := Tryz.isAgg663
  z201 := Tryz.sizeOf663
  v201 := Tryz.zeroValue663
  t226 := Tryz.underlying669
  a226 := Tryz.isAgg669
  z226 := Tryz.sizeOf669
  v226 := Tryz.zeroValue669
  t227 := Tryz.underlying670
  a227 := Tryz.isAgg670
  z227 := Tryz.sizeOf670
  v227 := Tryz.zeroValue670
  g0 := by kernel_rfl
  g6 := by kernel_rfl }
open Go.RowKit Go.Lib in
/-- strings.Fields, the table by 'Lib.TabIs' (as strings.TrimSpace's contract). 'hg': the table's number, by its name: at a dump 'by kernel_rfl'. (LAID: no walk: one application.) -/
theorem Tryz.strings_Fields (s : ByteArray) (w : World) (hs : s.size < 4294967281) (hascii : ∀ (j : Nat) b, s.data.toList[j]? = some b → b.toNat < 128) (htab : Lib.TabIs Tryz.prog w "strings.asciiSpace" .u8 Lib.asciiSpaceTab) :
    Calls Tryz.prog 568 #[.string s] w fun e w' =>
      e = .returned (.slice (some ⟨w.heap.size, 0, none⟩) (Lib.fields s.data.toList).length (Lib.fields s.data.toList).length) ∧ w' = w.alloc (.cells ((Lib.fields s.data.toList).map fun l => Value.string ⟨l.toArray⟩).toArray 9) := Any.strings_Fields Tryz.lays157 (by kernel_rfl) (by kernel_rfl) s w hs hascii htab
def Tryz.lays105_ren : Go.Shelf.Ren := ⟨fun | 105 => 108 | 212 => 247 | 99 => 248 | 165 => 249 | 166 => 250 | 170 => 251 | 169 => 252 | 263 => 363 | 264 => 364 | 206 => 365 | 240 => 366 | 241 => 367 | 276 => 467 | 277 => 468 | n => n, fun | 9 => 9 | 3 => 3 | 4 => 4 | 20 => 20 | 0 => 0 | 46 => 370 | 109 => 371 | 5 => 5 | 72 => 376 | 76 => 379 | 51 => 222 | 146 => 472 | 53 => 129 | 148 => 474 | 70 => 374 | 37 => 291 | 75 => 378 | 127 => 476 | 164 => 549 | 80 => 352 | n => n, fun | n => n⟩
theorem Tryz.lays105 : Go.Proofs.Lays.n105 Tryz.prog Tryz.lays105_ren := {
  mixed := by kernel_rfl
  f99 := Tryz.func248.trans (congrArg some (by kernel_rfl))
  f105 := Tryz.func108.trans (congrArg some (by kernel_rfl))
  f165 := Tryz.func249.trans (congrArg some (by kernel_rfl))
  f166 := Tryz.func250.trans (congrArg some (by kernel_rfl))
  f169 := Tryz.func252.trans (congrArg some (by kernel_rfl))
  f170 := Tryz.func251.trans (congrArg some (by kernel_rfl))
  f206 := Tryz.func365.trans (congrArg some (by kernel_rfl))
  f212 := Tryz.func247.trans (congrArg some (by kernel_rfl))
  f240 := Tryz.func366.trans (congrArg some (by kernel_rfl))
  f241 := Tryz.func367.trans (congrArg some (by kernel_rfl))
  f263 := Tryz.func363.trans (congrArg some (by kernel_rfl))
  f264 := Tryz.func364.trans (congrArg some (by kernel_rfl))
  f276 := Tryz.func467.trans (congrArg some (by kernel_rfl))
  f277 := Tryz.func468.trans (congrArg some (by kernel_rfl))
  t0 := Tryz.underlying0
  a0 := Tryz.isAgg0
  z0 := Tryz.sizeOf0
  v0 := Tryz.zeroValue0
  t3 := Tryz.underlying3
  a3 := Tryz.isAgg3
  z3 := Tryz.sizeOf3
  v3 := Tryz.zeroValue3
  t4 := Tryz.underlying4
  a4 := Tryz.isAgg4
  z4 := Tryz.sizeOf4
  v4 := Tryz.zeroValue4
  t5 := Tryz.underlying5
  a5 := Tryz.isAgg5
  z5 := Tryz.sizeOf5
  v5 := Tryz.zeroValue5
  t9 := Tryz.underlying9
  a9 := Tryz.isAgg9
  z9 := Tryz.sizeOf9
  v9 := Tryz.zeroValue9
  t20 := Tryz.underlying20
  a20 := Tryz.isAgg20
  z20 := Tryz.sizeOf20
  v20 := Tryz.zeroValue20
  t37 := Tryz.underlying291
  a37 := Tryz.isAgg291
  z37 := Tryz.sizeOf291
  v37 := Tryz.zeroValue291
  t46 := Tryz.underlying370
  a46 := Tryz.isAgg370
  z46 := Tryz.sizeOf370
  v46 := Tryz.zeroValue370
  t51 := Tryz.underlying222
  a51 := Tryz.isAgg222
  z51 := Tryz.sizeOf222
  v51 := Tryz.zeroValue222
  t53 := Tryz.underlying129
  a53 := Tryz.isAgg129
  z53 := Tryz.sizeOf129
  v53 := Tryz.zeroValue129
  t70 := Tryz.underlying374
  a70 := Tryz.isAgg374
  z70 := Tryz.sizeOf374
  v70 := Tryz.zeroValue374
  t72 := Tryz.underlying376
  a72 := Tryz.isAgg376
  z72 := Tryz.sizeOf376
  v72 := Tryz.zeroValue376
  t75 := Tryz.underlying378
  a75 := Tryz.isAgg378
  z75 := Tryz.sizeOf378
  v75 := Tryz.zeroValue378
  t76 := Tryz.underlying379
  a76 := Tryz.isAgg379
  z76 := Tryz.sizeOf379
  v76 := Tryz.zeroValue379
  t109 := Tryz.underlying371
  a109 := Tryz.isAgg371
  z109 := Tryz.sizeOf371
  v109 := Tryz.zeroValue371
  t127 := Tryz.underlying476
  a127 := Tryz.isAgg476
  z127 := Tryz.sizeOf476
  v127 := Tryz.zeroValue476
  t146 := Tryz.underlying472
  a146 := Tryz.isAgg472
  z146 := Tryz.sizeOf472
  v146 := Tryz.zeroValue472
  t148 := Tryz.underlying474
  a148 := Tryz.isAgg474
  z148 := Tryz.sizeOf474
  v148 := Tryz.zeroValue474
  t164 := Tryz.underlying549
  a164 := Tryz.isAgg549
  z164 := Tryz.sizeOf549
  v164 := Tryz.zeroValue549 }
theorem Tryz.Builder_Extra_105 : Builder.Extra Tryz.prog Tryz.lays105_ren := {
  sizeBuilder := by kernel_rfl
  liesBuilder := by kernel_rfl
  t5 := Tryz.underlying5
  a5 := Tryz.isAgg5
  z5 := Tryz.sizeOf5
  v5 := Tryz.zeroValue5
  infoByte := by kernel_rfl
  cellsByte := by kernel_rfl
  sizeByte := by kernel_rfl
  neB5 := by decide }
open Go.RowKit Go.Lib in
/-- **strings.Repeat: count ≥ 0, the result within one allocation: count copies of s.** (LAID: no walk: one application.) -/
theorem Tryz.strings_Repeat (s : ByteArray) (c : Nat) (w : World) (hc : c ≤ 9223372036854775807) (hlen : s.size * c ≤ 140737488355328) :
    Calls Tryz.prog 108 #[.string s, .int .i64 c] w fun e w' => e = .returned (.string ⟨(Lib.repeatL s.data.toList c).toArray⟩) ∧ Below w.heap.size w w' := Any.strings_Repeat Tryz.lays105 Tryz.Builder_Extra_105 s c w hc hlen
end Go.Proofs
