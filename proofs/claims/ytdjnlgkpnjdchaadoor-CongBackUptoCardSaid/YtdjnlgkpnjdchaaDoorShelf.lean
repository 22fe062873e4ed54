/-
  DERIVED: THE SHELF's CONTRACTS AT THIS DUMP, IN PLAIN WORDS (tools/lay-plain.mjs out of 'TrydShelf.lean', which tools/lay-shelf.mjs wrote): THE SAME DECLARATIONS UNDER THE SAME NAMES: 'import', 'namespace', 'open', 'def', 'theorem' AND NOTHING ELSE: no command of the shelf's: FOR A HAND-IN. Each laying: the table of numbers ('.._ren') and one theorem, a field a fact of the dump's own or the kernel's comparison; each contract: ONE APPLICATION.
-/
import Derived.Shelf.Strings.Builder1
import Derived.Shelf.Small.Wraps
import Derived.Shelf.Strings.BuilderF
import Derived.Shelf.Strings.BuilderK
import Derived.Shelf.Strconv.Itoa0
import Derived.Shelf.Strconv.Itoa1
import Derived.Shelf.LaysM
import Derived.Shelf.Strconv.Itoa2
import Derived.Shelf.Strconv.Itoa3
import Derived.Shelf.Strconv.Clone
import Derived.Shelf.Strconv.SyntaxError
import Derived.Shelf.LaysC
import Derived.Shelf.Strconv.ToError
import Derived.Shelf.Strconv.Lower
import Derived.Shelf.Strconv.ParseUint10
import Derived.Shelf.Strconv.ParseUint10Empty
import Derived.Shelf.Strconv.ParseUint10Any
import Derived.Shelf.Strconv.RangeError
import Derived.Shelf.Strconv.ToErrorRange
import Derived.Shelf.Strconv.ParseUintEmpty
import Derived.Shelf.Strconv.ParseUint10b64
import Derived.Shelf.Strconv.ParseUint10b32
import Derived.Shelf.Strconv.ParseUint10b16
import Derived.Shelf.Strconv.ParseUint10b8
import Derived.Shelf.Strconv.ParseUint10At
import Derived.Ground.MpProg
import Derived.Shelf.Pu.ParseUintPublic10
import Derived.Shelf.Pu.ErrVarParseUint
import Derived.Shelf.Strings.Search1
import Derived.Shelf.Strings.Search2
import Derived.Shelf.Strings.Cut
import Derived.Shelf.Strings.Shaped
import Derived.Shelf.Strings.Prefix
import Derived.Shelf.Strings.BuilderCap
import Derived.Test.YtdjnlgkpnjdchaaDoorProg
namespace Go.Proofs
open Go.Shelf
def Tryd.laysM171_ren:Go.Shelf.Ren:=⟨fun | 171=>109 | 243=>146 | 246=>174 | 283=>193 | 284=>194 | 285=>195 | 286=>196 | 129=>165 | 317=>209 | 318=>210 | 319=>211 | 320=>212 | 337=>219 | 338=>220 | n=>n,fun | 3=>3 | 9=>9 | 2=>2 | 4=>4 | 171=>262 | 0=>0 | 53=>143 | 37=>49 | 5=>5 | 173=>264 | 212=>277 | 51=>112 | 20=>20 | 213=>278 | 46=>199 | 232=>289 | 233=>290 | n=>n,fun | 17=>1 | 18=>4 | 19=>5 | n=>n⟩
theorem Tryd.laysM171:Go.Proofs.LaysM.n171 Tryd.prog Tryd.laysM171_ren:={
 mixed:=by kernel_rfl
 f129:=Tryd.func165.trans (congrArg some (by kernel_rfl))
 f171:=Tryd.func109.trans (congrArg some (by kernel_rfl))
 f243:=Tryd.func146.trans (congrArg some (by kernel_rfl))
 f246:=Tryd.func174.trans (congrArg some (by kernel_rfl))
 f283:=Tryd.func193.trans (congrArg some (by kernel_rfl))
 f284:=Tryd.func194.trans (congrArg some (by kernel_rfl))
 f285:=Tryd.func195.trans (congrArg some (by kernel_rfl))
 f286:=Tryd.func196.trans (congrArg some (by kernel_rfl))
 f317:=Tryd.func209.trans (congrArg some (by kernel_rfl))
 f318:=Tryd.func210.trans (congrArg some (by kernel_rfl))
 f319:=Tryd.func211.trans (congrArg some (by kernel_rfl))
 f320:=Tryd.func212.trans (congrArg some (by kernel_rfl))
 f337:=Tryd.func219.trans (congrArg some (by kernel_rfl))
 f338:=Tryd.func220.trans (congrArg some (by kernel_rfl))
 t0:=Tryd.underlying0
 a0:=Tryd.isAgg0
 z0:=Tryd.sizeOf0
 v0:=Tryd.zeroValue0
 t2:=Tryd.underlying2
 a2:=Tryd.isAgg2
 z2:=Tryd.sizeOf2
 v2:=Tryd.zeroValue2
 t3:=Tryd.underlying3
 a3:=Tryd.isAgg3
 z3:=Tryd.sizeOf3
 v3:=Tryd.zeroValue3
 t4:=Tryd.underlying4
 a4:=Tryd.isAgg4
 z4:=Tryd.sizeOf4
 v4:=Tryd.zeroValue4
 t5:=Tryd.underlying5
 a5:=Tryd.isAgg5
 z5:=Tryd.sizeOf5
 v5:=Tryd.zeroValue5
 t9:=Tryd.underlying9
 a9:=Tryd.isAgg9
 z9:=Tryd.sizeOf9
 v9:=Tryd.zeroValue9
 t20:=Tryd.underlying20
 a20:=Tryd.isAgg20
 z20:=Tryd.sizeOf20
 v20:=Tryd.zeroValue20
 t37:=Tryd.underlying49
 a37:=Tryd.isAgg49
 z37:=Tryd.sizeOf49
 v37:=Tryd.zeroValue49
 t46:=Tryd.underlying199
 a46:=Tryd.isAgg199
 z46:=Tryd.sizeOf199
 v46:=Tryd.zeroValue199
 t51:=Tryd.underlying112
 a51:=Tryd.isAgg112
 z51:=Tryd.sizeOf112
 v51:=Tryd.zeroValue112
 t53:=Tryd.underlying143
 a53:=Tryd.isAgg143
 z53:=Tryd.sizeOf143
 v53:=Tryd.zeroValue143
 t171:=Tryd.underlying262
 a171:=Tryd.isAgg262
 z171:=Tryd.sizeOf262
 v171:=Tryd.zeroValue262
 t173:=Tryd.underlying264
 a173:=Tryd.isAgg264
 z173:=Tryd.sizeOf264
 v173:=Tryd.zeroValue264
 t212:=Tryd.underlying277
 a212:=Tryd.isAgg277
 z212:=Tryd.sizeOf277
 v212:=Tryd.zeroValue277
 t213:=Tryd.underlying278
 a213:=Tryd.isAgg278
 z213:=Tryd.sizeOf278
 t232:=Tryd.underlying289
 a232:=Tryd.isAgg289
 z232:=Tryd.sizeOf289
 v232:=Tryd.zeroValue289
 t233:=Tryd.underlying290
 a233:=Tryd.isAgg290
 z233:=Tryd.sizeOf290
 v233:=Tryd.zeroValue290
 g17:=by kernel_rfl
 g18:=by kernel_rfl
 g19:=by kernel_rfl
 i0:=by kernel_rfl
 i2:=by kernel_rfl
 i3:=by kernel_rfl
 i4:=by kernel_rfl
 i5:=by kernel_rfl
 i9:=by kernel_rfl
 i20:=by kernel_rfl
 i37:=by kernel_rfl
 i46:=by kernel_rfl
 i51:=by kernel_rfl
 i53:=by kernel_rfl
 i171:=by kernel_rfl
 i173:=by kernel_rfl
 i212:=by kernel_rfl
 i232:=by kernel_rfl
 i233:=by kernel_rfl
 m17:=by kernel_rfl
 m18:=by kernel_rfl
 m19:=by kernel_rfl }
open Go.RowKit Go.Sort Go.Lib in
theorem Tryd.strconv_Itoa (n : Int) (h0 : -9223372036854775808 ≤ n) (h1 : n ≤ 9223372036854775807) (w : World) (htab : Lib.TabIs Tryd.prog w "internal/strconv.uint64pow10" .u64 Lib.pow10Tab) :
  Calls Tryd.prog 109 #[.int .i64 n] w fun e w'=>e=.returned (.string ⟨(Lib.itoa n).toArray⟩)∧∃ k os,w'=grow (w.drewN k) os:=Any.strconv_Itoa Tryd.laysM171 n h0 h1 w htab
end Go.Proofs
