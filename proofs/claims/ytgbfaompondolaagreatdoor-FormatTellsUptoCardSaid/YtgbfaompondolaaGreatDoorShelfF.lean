/-
  DERIVED: THE SHELF's CONTRACTS AT THIS DUMP, IN PLAIN WORDS (tools/lay-plain.mjs out of 'TryzShelf.lean', which tools/lay-shelf.mjs wrote): THE SAME DECLARATIONS UNDER THE SAME NAMES: 'import', 'namespace', 'open', 'def', 'theorem' AND NOTHING ELSE: no command of the shelf's: FOR A HAND-IN. Each laying: the table of numbers ('.._ren') and one theorem, a field a fact of the dump's own or the kernel's comparison; each contract: ONE APPLICATION.-/
import Derived.Shelf.Strings.Builder1
import Derived.Shelf.Strings.Builder2
import Derived.Shelf.Strings.OnBuilder
import Derived.Shelf.Small.Strs
import Derived.Shelf.Strings.BuilderF
import Derived.Shelf.Strings.BuilderK
import Derived.Shelf.Strings.Builder2Cap
import Derived.Shelf.Strconv.Atoi
import Derived.Shelf.Strconv.Itoa0
import Derived.Shelf.Strconv.Itoa1
import Derived.Shelf.LaysM
import Derived.Shelf.Strconv.Itoa2
import Derived.Shelf.Strconv.Itoa3
import Derived.Shelf.Strconv.AtoiErrFast
import Derived.Shelf.Strconv.ParseIntEmpty
import Derived.Shelf.Strconv.AtoiFail
import Derived.Shelf.Strconv.Clone
import Derived.Shelf.Strconv.SyntaxError
import Derived.Shelf.LaysC
import Derived.Shelf.Strconv.ToError
import Derived.Shelf.Strconv.Lower
import Derived.Shelf.Strconv.ParseUint10
import Derived.Shelf.Strconv.ParseUint10Empty
import Derived.Shelf.Strconv.ParseUint10Any
import Derived.Shelf.Strconv.ParseInt10
import Derived.Shelf.Strconv.AtoiLong
import Derived.Shelf.Strconv.AtoiInnerAll
import Derived.Shelf.Strconv.RangeError
import Derived.Shelf.Strconv.ToErrorRange
import Derived.Shelf.Strconv.AtoiAll
import Derived.Shelf.Strconv.ErrVarAll
import Derived.Shelf.Strconv.ParseUintEmpty
import Derived.Shelf.Strconv.ParseUint10b64
import Derived.Shelf.Strconv.ParseUint10b32
import Derived.Shelf.Strconv.ParseUint10b16
import Derived.Shelf.Strconv.ParseUint10b8
import Derived.Shelf.Strings.Search1
import Derived.Shelf.Strings.Search2
import Derived.Shelf.Strings.Cut
import Derived.Shelf.Strings.Shaped
import Derived.Shelf.Strings.Prefix
import Derived.Shelf.Strings.Fields
import Derived.Shelf.Strings.SplitShaped
import Derived.Shelf.Unicode.Latin
import Derived.Shelf.Bits.Mul64
import Derived.Shelf.Unicode.Is16White
import Derived.Shelf.Unicode.IsSpaceAny
import Derived.Shelf.Unicode.Is16Any
import Derived.Shelf.Unicode.Is32Any
import Derived.Shelf.Unicode.ExclAny
import Derived.Shelf.Slices.Equal
import Derived.Test.YtgbfaompondolaaGreatDoorProg
namespace Go.Proofs
open Go.Shelf
def Tryz.lays157_ren:Go.Shelf.Ren:=⟨fun|157=>253|229=>287|199=>288|261=>308|311=>324|312=>325|n=>n,fun|9=>9|31=>63|3=>3|5=>5|4=>4|119=>277|0=>0|40=>279|152=>297|21=>21|154=>299|51=>271|141=>301|196=>315|193=>312|198=>318|49=>316|194=>313|201=>321|226=>325|46=>192|227=>326|n=>n,fun|0=>0|6=>2|n=>n⟩
theorem Tryz.lays157:Go.Proofs.Lays.n157 Tryz.prog Tryz.lays157_ren:={
 mixed:=by kernel_rfl
 f157:=Tryz.func253.trans (congrArg some (by kernel_rfl))
 f199:=Tryz.func288.trans (congrArg some (by kernel_rfl))
 f229:=Tryz.func287.trans (congrArg some (by kernel_rfl))
 f261:=Tryz.func308.trans (congrArg some (by kernel_rfl))
 f311:=Tryz.func324.trans (congrArg some (by kernel_rfl))
 f312:=Tryz.func325.trans (congrArg some (by kernel_rfl))
 t0:=Tryz.underlying0
 a0:=Tryz.isAgg0
 z0:=Tryz.sizeOf0
 v0:=Tryz.zeroValue0
 t3:=Tryz.underlying3
 a3:=Tryz.isAgg3
 z3:=Tryz.sizeOf3
 v3:=Tryz.zeroValue3
 t4:=Tryz.underlying4
 a4:=Tryz.isAgg4
 z4:=Tryz.sizeOf4
 v4:=Tryz.zeroValue4
 t5:=Tryz.underlying5
 a5:=Tryz.isAgg5
 z5:=Tryz.sizeOf5
 v5:=Tryz.zeroValue5
 t9:=Tryz.underlying9
 a9:=Tryz.isAgg9
 z9:=Tryz.sizeOf9
 v9:=Tryz.zeroValue9
 t21:=Tryz.underlying21
 a21:=Tryz.isAgg21
 z21:=Tryz.sizeOf21
 v21:=Tryz.zeroValue21
 t31:=Tryz.underlying63
 a31:=Tryz.isAgg63
 z31:=Tryz.sizeOf63
 v31:=Tryz.zeroValue63
 t40:=Tryz.underlying279
 a40:=Tryz.isAgg279
 z40:=Tryz.sizeOf279
 v40:=Tryz.zeroValue279
 t46:=Tryz.underlying192
 a46:=Tryz.isAgg192
 z46:=Tryz.sizeOf192
 v46:=Tryz.zeroValue192
 t49:=Tryz.underlying316
 a49:=Tryz.isAgg316
 z49:=Tryz.sizeOf316
 v49:=Tryz.zeroValue316
 t51:=Tryz.underlying271
 a51:=Tryz.isAgg271
 z51:=Tryz.sizeOf271
 v51:=Tryz.zeroValue271
 t119:=Tryz.underlying277
 a119:=Tryz.isAgg277
 z119:=Tryz.sizeOf277
 t141:=Tryz.underlying301
 a141:=Tryz.isAgg301
 z141:=Tryz.sizeOf301
 v141:=Tryz.zeroValue301
 t152:=Tryz.underlying297
 a152:=Tryz.isAgg297
 z152:=Tryz.sizeOf297
 v152:=Tryz.zeroValue297
 t154:=Tryz.underlying299
 a154:=Tryz.isAgg299
 z154:=Tryz.sizeOf299
 v154:=Tryz.zeroValue299
 t193:=Tryz.underlying312
 a193:=Tryz.isAgg312
 z193:=Tryz.sizeOf312
 v193:=Tryz.zeroValue312
 t194:=Tryz.underlying313
 a194:=Tryz.isAgg313
 z194:=Tryz.sizeOf313
 v194:=Tryz.zeroValue313
 t196:=Tryz.underlying315
 a196:=Tryz.isAgg315
 z196:=Tryz.sizeOf315
 v196:=Tryz.zeroValue315
 t198:=Tryz.underlying318
 a198:=Tryz.isAgg318
 z198:=Tryz.sizeOf318
 v198:=Tryz.zeroValue318
 t201:=Tryz.underlying321
 a201:=Tryz.isAgg321
 z201:=Tryz.sizeOf321
 v201:=Tryz.zeroValue321
 t226:=Tryz.underlying325
 a226:=Tryz.isAgg325
 z226:=Tryz.sizeOf325
 v226:=Tryz.zeroValue325
 t227:=Tryz.underlying326
 a227:=Tryz.isAgg326
 z227:=Tryz.sizeOf326
 v227:=Tryz.zeroValue326
 g0:=by kernel_rfl
 g6:=by kernel_rfl}
open Go.RowKit Go.Lib in
theorem Tryz.strings_Fields (s:ByteArray) (w:World) (hs:s.size<4294967281) (hascii: ∀(j:Nat) b,s.data.toList[j]? =some b→b.toNat<128) (htab:Lib.TabIs Tryz.prog w "strings.asciiSpace" .u8 Lib.asciiSpaceTab):
 Calls Tryz.prog 253 #[.string s] w fun e w'=>
  e= .returned (.slice (some ⟨w.heap.size,0,none⟩) (Lib.fields s.data.toList).length (Lib.fields s.data.toList).length)∧w'=w.alloc (.cells ((Lib.fields s.data.toList).map fun l=>Value.string ⟨l.toArray⟩).toArray 9):=Any.strings_Fields Tryz.lays157 (by kernel_rfl) (by kernel_rfl) s w hs hascii htab
end Go.Proofs
