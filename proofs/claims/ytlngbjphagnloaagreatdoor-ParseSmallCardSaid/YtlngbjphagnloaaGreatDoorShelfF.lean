/-
  DERIVED: THE SHELF's CONTRACTS AT THIS DUMP, IN PLAIN WORDS (tools/lay-plain.mjs out of 'TryzShelf.lean', which tools/lay-shelf.mjs wrote): THE SAME DECLARATIONS UNDER THE SAME NAMES: 'import', 'namespace', 'open', 'def', 'theorem' AND NOTHING ELSE: no command of the shelf's: FOR A HAND-IN. Each laying: the table of numbers ('.._ren') and one theorem, a field a fact of the dump's own or the kernel's comparison; each contract: ONE APPLICATION.-/
import Derived.Shelf.Strings.Builder1
import Derived.Shelf.Strings.Builder2
import Derived.Shelf.Strings.OnBuilder
import Derived.Shelf.Small.Strs
import Derived.Shelf.Strings.BuilderF
import Derived.Shelf.Strings.BuilderK
import Derived.Shelf.Strings.Builder2Cap
import Derived.Shelf.Strconv.Atoi
import Derived.Shelf.Strconv.Itoa0
import Derived.Shelf.Strconv.Itoa1
import Derived.Shelf.LaysM
import Derived.Shelf.Strconv.Itoa2
import Derived.Shelf.Strconv.Itoa3
import Derived.Shelf.Strconv.AtoiErrFast
import Derived.Shelf.Strconv.ParseIntEmpty
import Derived.Shelf.Strconv.AtoiFail
import Derived.Shelf.Strconv.Clone
import Derived.Shelf.Strconv.SyntaxError
import Derived.Shelf.LaysC
import Derived.Shelf.Strconv.ToError
import Derived.Shelf.Strconv.Lower
import Derived.Shelf.Strconv.ParseUint10
import Derived.Shelf.Strconv.ParseUint10Empty
import Derived.Shelf.Strconv.ParseUint10Any
import Derived.Shelf.Strconv.ParseInt10
import Derived.Shelf.Strconv.AtoiLong
import Derived.Shelf.Strconv.AtoiInnerAll
import Derived.Shelf.Strconv.RangeError
import Derived.Shelf.Strconv.ToErrorRange
import Derived.Shelf.Strconv.AtoiAll
import Derived.Shelf.Strconv.ErrVarAll
import Derived.Shelf.Strconv.ParseUintEmpty
import Derived.Shelf.Strconv.ParseUint10b64
import Derived.Shelf.Strconv.ParseUint10b32
import Derived.Shelf.Strconv.ParseUint10b16
import Derived.Shelf.Strconv.ParseUint10b8
import Derived.Shelf.Strings.Search1
import Derived.Shelf.Strings.Search2
import Derived.Shelf.Strings.Cut
import Derived.Shelf.Strings.Shaped
import Derived.Shelf.Strings.Prefix
import Derived.Shelf.Strings.Fields
import Derived.Shelf.Strings.SplitShaped
import Derived.Shelf.Unicode.Latin
import Derived.Shelf.Unicode.Is16White
import Derived.Shelf.Unicode.IsSpaceAny
import Derived.Shelf.Unicode.Is16Any
import Derived.Shelf.Unicode.Is32Any
import Derived.Shelf.Unicode.ExclAny
import Derived.Shelf.Slices.Turned
import Derived.Test.YtlngbjphagnloaaGreatDoorProg
namespace Go.Proofs
open Go.Shelf
def Tryz.lays157_ren:Go.Shelf.Ren:=⟨fun|157=>76|229=>114|199=>115|261=>142|311=>170|312=>171|n=>n,fun|9=>9|31=>70|3=>3|5=>5|4=>4|119=>185|0=>0|40=>187|152=>208|21=>21|154=>210|51=>211|141=>213|196=>233|193=>230|198=>236|49=>234|194=>231|201=>239|226=>253|46=>242|227=>254|n=>n,fun|0=>0|6=>1|n=>n⟩
theorem Tryz.lays157:Go.Proofs.Lays.n157 Tryz.prog Tryz.lays157_ren:={
 mixed:=by kernel_rfl
 f157:=Tryz.func76.trans (congrArg some (by kernel_rfl))
 f199:=Tryz.func115.trans (congrArg some (by kernel_rfl))
 f229:=Tryz.func114.trans (congrArg some (by kernel_rfl))
 f261:=Tryz.func142.trans (congrArg some (by kernel_rfl))
 f311:=Tryz.func170.trans (congrArg some (by kernel_rfl))
 f312:=Tryz.func171.trans (congrArg some (by kernel_rfl))
 t0:=Tryz.underlying0
 a0:=Tryz.isAgg0
 z0:=Tryz.sizeOf0
 v0:=Tryz.zeroValue0
 t3:=Tryz.underlying3
 a3:=Tryz.isAgg3
 z3:=Tryz.sizeOf3
 v3:=Tryz.zeroValue3
 t4:=Tryz.underlying4
 a4:=Tryz.isAgg4
 z4:=Tryz.sizeOf4
 v4:=Tryz.zeroValue4
 t5:=Tryz.underlying5
 a5:=Tryz.isAgg5
 z5:=Tryz.sizeOf5
 v5:=Tryz.zeroValue5
 t9:=Tryz.underlying9
 a9:=Tryz.isAgg9
 z9:=Tryz.sizeOf9
 v9:=Tryz.zeroValue9
 t21:=Tryz.underlying21
 a21:=Tryz.isAgg21
 z21:=Tryz.sizeOf21
 v21:=Tryz.zeroValue21
 t31:=Tryz.underlying70
 a31:=Tryz.isAgg70
 z31:=Tryz.sizeOf70
 v31:=Tryz.zeroValue70
 t40:=Tryz.underlying187
 a40:=Tryz.isAgg187
 z40:=Tryz.sizeOf187
 v40:=Tryz.zeroValue187
 t46:=Tryz.underlying242
 a46:=Tryz.isAgg242
 z46:=Tryz.sizeOf242
 v46:=Tryz.zeroValue242
 t49:=Tryz.underlying234
 a49:=Tryz.isAgg234
 z49:=Tryz.sizeOf234
 v49:=Tryz.zeroValue234
 t51:=Tryz.underlying211
 a51:=Tryz.isAgg211
 z51:=Tryz.sizeOf211
 v51:=Tryz.zeroValue211
 t119:=Tryz.underlying185
 a119:=Tryz.isAgg185
 z119:=Tryz.sizeOf185
 t141:=Tryz.underlying213
 a141:=Tryz.isAgg213
 z141:=Tryz.sizeOf213
 v141:=Tryz.zeroValue213
 t152:=Tryz.underlying208
 a152:=Tryz.isAgg208
 z152:=Tryz.sizeOf208
 v152:=Tryz.zeroValue208
 t154:=Tryz.underlying210
 a154:=Tryz.isAgg210
 z154:=Tryz.sizeOf210
 v154:=Tryz.zeroValue210
 t193:=Tryz.underlying230
 a193:=Tryz.isAgg230
 z193:=Tryz.sizeOf230
 v193:=Tryz.zeroValue230
 t194:=Tryz.underlying231
 a194:=Tryz.isAgg231
 z194:=Tryz.sizeOf231
 v194:=Tryz.zeroValue231
 t196:=Tryz.underlying233
 a196:=Tryz.isAgg233
 z196:=Tryz.sizeOf233
 v196:=Tryz.zeroValue233
 t198:=Tryz.underlying236
 a198:=Tryz.isAgg236
 z198:=Tryz.sizeOf236
 v198:=Tryz.zeroValue236
 t201:=Tryz.underlying239
 a201:=Tryz.isAgg239
 z201:=Tryz.sizeOf239
 v201:=Tryz.zeroValue239
 t226:=Tryz.underlying253
 a226:=Tryz.isAgg253
 z226:=Tryz.sizeOf253
 v226:=Tryz.zeroValue253
 t227:=Tryz.underlying254
 a227:=Tryz.isAgg254
 z227:=Tryz.sizeOf254
 v227:=Tryz.zeroValue254
 g0:=by kernel_rfl
 g6:=by kernel_rfl}
open Go.RowKit Go.Lib in
theorem Tryz.strings_Fields (s:ByteArray) (w:World) (hs:s.size<4294967281) (hascii: ∀(j:Nat) b,s.data.toList[j]? =some b→b.toNat<128) (htab:Lib.TabIs Tryz.prog w "strings.asciiSpace" .u8 Lib.asciiSpaceTab):
 Calls Tryz.prog 76 #[.string s] w fun e w'=>
  e= .returned (.slice (some ⟨w.heap.size,0,none⟩) (Lib.fields s.data.toList).length (Lib.fields s.data.toList).length)∧w'=w.alloc (.cells ((Lib.fields s.data.toList).map fun l=>Value.string ⟨l.toArray⟩).toArray 9):=Any.strings_Fields Tryz.lays157 (by kernel_rfl) (by kernel_rfl) s w hs hascii htab
def Tryz.laysM157_ren:Go.Shelf.Ren:=⟨fun|157=>76|229=>114|199=>115|261=>142|311=>170|312=>171|n=>n,fun|9=>9|31=>70|3=>3|5=>5|4=>4|119=>185|0=>0|40=>187|152=>208|21=>21|154=>210|51=>211|141=>213|196=>233|193=>230|198=>236|49=>234|194=>231|201=>239|226=>253|46=>242|227=>254|n=>n,fun|0=>0|6=>1|n=>n⟩
theorem Tryz.laysM157:Go.Proofs.LaysM.n157 Tryz.prog Tryz.laysM157_ren:={
 mixed:=by kernel_rfl
 f157:=Tryz.func76.trans (congrArg some (by kernel_rfl))
 f199:=Tryz.func115.trans (congrArg some (by kernel_rfl))
 f229:=Tryz.func114.trans (congrArg some (by kernel_rfl))
 f261:=Tryz.func142.trans (congrArg some (by kernel_rfl))
 f311:=Tryz.func170.trans (congrArg some (by kernel_rfl))
 f312:=Tryz.func171.trans (congrArg some (by kernel_rfl))
 t0:=Tryz.underlying0
 a0:=Tryz.isAgg0
 z0:=Tryz.sizeOf0
 v0:=Tryz.zeroValue0
 t3:=Tryz.underlying3
 a3:=Tryz.isAgg3
 z3:=Tryz.sizeOf3
 v3:=Tryz.zeroValue3
 t4:=Tryz.underlying4
 a4:=Tryz.isAgg4
 z4:=Tryz.sizeOf4
 v4:=Tryz.zeroValue4
 t5:=Tryz.underlying5
 a5:=Tryz.isAgg5
 z5:=Tryz.sizeOf5
 v5:=Tryz.zeroValue5
 t9:=Tryz.underlying9
 a9:=Tryz.isAgg9
 z9:=Tryz.sizeOf9
 v9:=Tryz.zeroValue9
 t21:=Tryz.underlying21
 a21:=Tryz.isAgg21
 z21:=Tryz.sizeOf21
 v21:=Tryz.zeroValue21
 t31:=Tryz.underlying70
 a31:=Tryz.isAgg70
 z31:=Tryz.sizeOf70
 v31:=Tryz.zeroValue70
 t40:=Tryz.underlying187
 a40:=Tryz.isAgg187
 z40:=Tryz.sizeOf187
 v40:=Tryz.zeroValue187
 t46:=Tryz.underlying242
 a46:=Tryz.isAgg242
 z46:=Tryz.sizeOf242
 v46:=Tryz.zeroValue242
 t49:=Tryz.underlying234
 a49:=Tryz.isAgg234
 z49:=Tryz.sizeOf234
 v49:=Tryz.zeroValue234
 t51:=Tryz.underlying211
 a51:=Tryz.isAgg211
 z51:=Tryz.sizeOf211
 v51:=Tryz.zeroValue211
 t119:=Tryz.underlying185
 a119:=Tryz.isAgg185
 z119:=Tryz.sizeOf185
 t141:=Tryz.underlying213
 a141:=Tryz.isAgg213
 z141:=Tryz.sizeOf213
 v141:=Tryz.zeroValue213
 t152:=Tryz.underlying208
 a152:=Tryz.isAgg208
 z152:=Tryz.sizeOf208
 v152:=Tryz.zeroValue208
 t154:=Tryz.underlying210
 a154:=Tryz.isAgg210
 z154:=Tryz.sizeOf210
 v154:=Tryz.zeroValue210
 t193:=Tryz.underlying230
 a193:=Tryz.isAgg230
 z193:=Tryz.sizeOf230
 v193:=Tryz.zeroValue230
 t194:=Tryz.underlying231
 a194:=Tryz.isAgg231
 z194:=Tryz.sizeOf231
 v194:=Tryz.zeroValue231
 t196:=Tryz.underlying233
 a196:=Tryz.isAgg233
 z196:=Tryz.sizeOf233
 v196:=Tryz.zeroValue233
 t198:=Tryz.underlying236
 a198:=Tryz.isAgg236
 z198:=Tryz.sizeOf236
 v198:=Tryz.zeroValue236
 t201:=Tryz.underlying239
 a201:=Tryz.isAgg239
 z201:=Tryz.sizeOf239
 v201:=Tryz.zeroValue239
 t226:=Tryz.underlying253
 a226:=Tryz.isAgg253
 z226:=Tryz.sizeOf253
 v226:=Tryz.zeroValue253
 t227:=Tryz.underlying254
 a227:=Tryz.isAgg254
 z227:=Tryz.sizeOf254
 v227:=Tryz.zeroValue254
 g0:=by kernel_rfl
 g6:=by kernel_rfl
 i0:=by kernel_rfl
 i3:=by kernel_rfl
 i4:=by kernel_rfl
 i5:=by kernel_rfl
 i9:=by kernel_rfl
 i21:=by kernel_rfl
 i31:=by kernel_rfl
 i40:=by kernel_rfl
 i46:=by kernel_rfl
 i49:=by kernel_rfl
 i51:=by kernel_rfl
 i141:=by kernel_rfl
 i152:=by kernel_rfl
 i154:=by kernel_rfl
 i193:=by kernel_rfl
 i194:=by kernel_rfl
 i196:=by kernel_rfl
 i198:=by kernel_rfl
 i201:=by kernel_rfl
 i226:=by kernel_rfl
 i227:=by kernel_rfl
 m0:=by kernel_rfl
 m6:=by kernel_rfl}
open Go.RowKit Go.Lib in
theorem Tryz.strings_Fields_laid (s:ByteArray) (w:World) (hs:s.size<4294967281) (hascii: ∀(j:Nat) b,s.data.toList[j]? =some b→b.toNat<128) (htab:Lib.TabIs Tryz.prog w "strings.asciiSpace" .u8 Lib.asciiSpaceTab):
 Calls Tryz.prog 76 #[.string s] w fun e w'=>
  e= .returned (.slice (some ⟨w.heap.size,0,none⟩) (Lib.fields s.data.toList).length (Lib.fields s.data.toList).length)∧w'=w.alloc (.cells ((Lib.fields s.data.toList).map fun l=>Value.string ⟨l.toArray⟩).toArray 9):=Any.strings_Fields_laid Tryz.laysM157 s w hs hascii htab
end Go.Proofs
