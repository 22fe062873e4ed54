/-
  DERIVED: THE SHELF's CONTRACTS AT THIS DUMP, IN PLAIN WORDS (tools/lay-plain.mjs out of 'TrydShelf.lean', which tools/lay-shelf.mjs wrote): THE SAME DECLARATIONS UNDER THE SAME NAMES: 'import', 'namespace', 'open', 'def', 'theorem' AND NOTHING ELSE: no command of the shelf's: FOR A HAND-IN. Each laying: the table of numbers ('.._ren') and one theorem, a field a fact of the dump's own or the kernel's comparison; each contract: ONE APPLICATION.
-/
import Derived.Shelf.Strings.Builder1
import Derived.Shelf.Small.Wraps
import Derived.Shelf.Strings.BuilderF
import Derived.Shelf.Strings.BuilderK
import Derived.Shelf.Strconv.Itoa0
import Derived.Shelf.Strconv.Itoa1
import Derived.Shelf.LaysM
import Derived.Shelf.Strconv.Itoa2
import Derived.Shelf.Strconv.Itoa3
import Derived.Shelf.Strconv.Clone
import Derived.Shelf.Strconv.SyntaxError
import Derived.Shelf.LaysC
import Derived.Shelf.Strconv.ToError
import Derived.Shelf.Strconv.Lower
import Derived.Shelf.Strconv.ParseUint10
import Derived.Shelf.Strconv.ParseUint10Empty
import Derived.Shelf.Strconv.ParseUint10Any
import Derived.Shelf.Strconv.RangeError
import Derived.Shelf.Strconv.ToErrorRange
import Derived.Shelf.Strconv.ParseUintEmpty
import Derived.Shelf.Strconv.ParseUint10b64
import Derived.Shelf.Strconv.ParseUint10b32
import Derived.Shelf.Strconv.ParseUint10b16
import Derived.Shelf.Strconv.ParseUint10b8
import Derived.Shelf.Strconv.ParseUint10At
import Derived.Ground.MpProg
import Derived.Shelf.Pu.ParseUintPublic10
import Derived.Shelf.Pu.ErrVarParseUint
import Derived.Shelf.Strings.Search1
import Derived.Shelf.Strings.Search2
import Derived.Shelf.Strings.Cut
import Derived.Shelf.Strings.Shaped
import Derived.Shelf.Strings.Prefix
import Derived.Shelf.Strings.BuilderCap
import Derived.Shelf.Slices.Reverse
import Derived.Shelf.Slices.Cells
import Derived.Test.YtdeacbdpmdfgdaaDoorProg
namespace Go.Proofs
open Go.Shelf
def Tryd.lays103_ren:Go.Shelf.Ren:=⟨fun | 103=>70 | 210=>92 | 206=>107 | n=>n,fun | 9=>9 | 4=>4 | 24=>143 | 3=>3 | n=>n,fun | n=>n⟩
theorem Tryd.lays103:Go.Proofs.Lays.n103 Tryd.prog Tryd.lays103_ren:={
 mixed:=by kernel_rfl
 f103:=Tryd.func70.trans (congrArg some (by kernel_rfl))
 f206:=Tryd.func107.trans (congrArg some (by kernel_rfl))
 f210:=Tryd.func92.trans (congrArg some (by kernel_rfl))
 t3:=Tryd.underlying3
 a3:=Tryd.isAgg3
 z3:=Tryd.sizeOf3
 v3:=Tryd.zeroValue3
 t4:=Tryd.underlying4
 a4:=Tryd.isAgg4
 z4:=Tryd.sizeOf4
 v4:=Tryd.zeroValue4
 t9:=Tryd.underlying9
 a9:=Tryd.isAgg9
 z9:=Tryd.sizeOf9
 v9:=Tryd.zeroValue9
 t24:=Tryd.underlying143
 a24:=Tryd.isAgg143
 z24:=Tryd.sizeOf143
 v24:=Tryd.zeroValue143 }
open Go.RowKit in
theorem Tryd.strings_CutPrefix (s p:ByteArray) (w:World) :
  Calls Tryd.prog 70 #[.string s,.string p] w fun e w'=>e=.returned (.tuple #[.string ⟨(Lib.trimPrefix s.data.toList p.data.toList).toArray⟩,.bool (Lib.hasPrefix s.data.toList p.data.toList)])∧w'=w:=Any.strings_CutPrefix Tryd.lays103 s p w
def Tryd.lays283_ren:Go.Shelf.Ren:=⟨fun | 283=>115 | n=>n,fun | 3=>3 | 9=>9 | 4=>4 | n=>n,fun | n=>n⟩
theorem Tryd.lays283:Go.Proofs.Lays.n283 Tryd.prog Tryd.lays283_ren:={
 mixed:=by kernel_rfl
 f283:=Tryd.func115.trans (congrArg some (by kernel_rfl))
 t3:=Tryd.underlying3
 a3:=Tryd.isAgg3
 z3:=Tryd.sizeOf3
 v3:=Tryd.zeroValue3
 t4:=Tryd.underlying4
 a4:=Tryd.isAgg4
 z4:=Tryd.sizeOf4
 v4:=Tryd.zeroValue4
 t9:=Tryd.underlying9
 a9:=Tryd.isAgg9
 z9:=Tryd.sizeOf9
 v9:=Tryd.zeroValue9 }
open Go.Lib in
theorem Tryd.internal_strconv_small (i:Nat) (h:i<100) (w:World) :
  Calls Tryd.prog 115 #[.int .i64 i] w fun e w'=>e=.returned (.string ⟨(Lib.decDigits i).toArray⟩)∧w'=w:=Any.internal_strconv_small Tryd.lays283 i h w
def Tryd.laysM284_ren:Go.Shelf.Ren:=⟨fun | 284=>116 | 129=>137 | 317=>136 | 318=>138 | n=>n,fun | 53=>142 | 3=>3 | 212=>215 | 0=>0 | 4=>4 | 46=>204 | 5=>5 | 9=>9 | n=>n,fun | 17=>1 | n=>n⟩
theorem Tryd.laysM284:Go.Proofs.LaysM.n284 Tryd.prog Tryd.laysM284_ren:={
 mixed:=by kernel_rfl
 f129:=Tryd.func137.trans (congrArg some (by kernel_rfl))
 f284:=Tryd.func116.trans (congrArg some (by kernel_rfl))
 f317:=Tryd.func136.trans (congrArg some (by kernel_rfl))
 f318:=Tryd.func138.trans (congrArg some (by kernel_rfl))
 t0:=Tryd.underlying0
 a0:=Tryd.isAgg0
 z0:=Tryd.sizeOf0
 v0:=Tryd.zeroValue0
 t3:=Tryd.underlying3
 a3:=Tryd.isAgg3
 z3:=Tryd.sizeOf3
 v3:=Tryd.zeroValue3
 t4:=Tryd.underlying4
 a4:=Tryd.isAgg4
 z4:=Tryd.sizeOf4
 v4:=Tryd.zeroValue4
 t5:=Tryd.underlying5
 a5:=Tryd.isAgg5
 z5:=Tryd.sizeOf5
 v5:=Tryd.zeroValue5
 t9:=Tryd.underlying9
 a9:=Tryd.isAgg9
 z9:=Tryd.sizeOf9
 v9:=Tryd.zeroValue9
 t46:=Tryd.underlying204
 a46:=Tryd.isAgg204
 z46:=Tryd.sizeOf204
 v46:=Tryd.zeroValue204
 t53:=Tryd.underlying142
 a53:=Tryd.isAgg142
 z53:=Tryd.sizeOf142
 v53:=Tryd.zeroValue142
 t212:=Tryd.underlying215
 a212:=Tryd.isAgg215
 z212:=Tryd.sizeOf215
 v212:=Tryd.zeroValue215
 g17:=by kernel_rfl
 i0:=by kernel_rfl
 i3:=by kernel_rfl
 i4:=by kernel_rfl
 i5:=by kernel_rfl
 i9:=by kernel_rfl
 i46:=by kernel_rfl
 i53:=by kernel_rfl
 i212:=by kernel_rfl
 m17:=by kernel_rfl }
open Go.Lib in
theorem Tryd.internal_strconv_numDigits (u : Nat) (h1 : 1 ≤ u) (h2 : u < 18446744073709551616) (w : World) (htab : Lib.TabIs Tryd.prog w "internal/strconv.uint64pow10" .u64 Lib.pow10Tab) :
  Calls Tryd.prog 116 #[.int .u64 u] w fun e w'=>e=.returned (.int .i64 (Lib.nDigits u))∧w'=w:=Any.internal_strconv_numDigits Tryd.laysM284 u h1 h2 w htab
def Tryd.lays285_ren:Go.Shelf.Ren:=⟨fun | 285=>117 | n=>n,fun | 37=>40 | 53=>142 | 3=>3 | 4=>4 | 51=>84 | 9=>9 | 5=>5 | 0=>0 | n=>n,fun | n=>n⟩
theorem Tryd.lays285:Go.Proofs.Lays.n285 Tryd.prog Tryd.lays285_ren:={
 mixed:=by kernel_rfl
 f285:=Tryd.func117.trans (congrArg some (by kernel_rfl))
 t0:=Tryd.underlying0
 a0:=Tryd.isAgg0
 z0:=Tryd.sizeOf0
 v0:=Tryd.zeroValue0
 t3:=Tryd.underlying3
 a3:=Tryd.isAgg3
 z3:=Tryd.sizeOf3
 v3:=Tryd.zeroValue3
 t4:=Tryd.underlying4
 a4:=Tryd.isAgg4
 z4:=Tryd.sizeOf4
 v4:=Tryd.zeroValue4
 t5:=Tryd.underlying5
 a5:=Tryd.isAgg5
 z5:=Tryd.sizeOf5
 v5:=Tryd.zeroValue5
 t9:=Tryd.underlying9
 a9:=Tryd.isAgg9
 z9:=Tryd.sizeOf9
 v9:=Tryd.zeroValue9
 t37:=Tryd.underlying40
 a37:=Tryd.isAgg40
 z37:=Tryd.sizeOf40
 v37:=Tryd.zeroValue40
 t51:=Tryd.underlying84
 a51:=Tryd.isAgg84
 z51:=Tryd.sizeOf84
 v51:=Tryd.zeroValue84
 t53:=Tryd.underlying142
 a53:=Tryd.isAgg142
 z53:=Tryd.sizeOf142
 v53:=Tryd.zeroValue142 }
open Go.RowKit Go.Sort Go.Lib in
theorem Tryd.internal_strconv_formatBase10 (blk off cap:Nat) (u:Nat) (d:Array UInt8) (w:World) (hH:Holds (fun (b:UInt8)=>Value.int .u8 (b.toNat:Int)) w blk off d) (hu:u<10 ^ d.size) (hu64:u<18446744073709551616) (hsz:d.size<4611686018427387904) :
  Calls Tryd.prog 117 #[.slice (some ⟨blk,off,none⟩) d.size cap,.int .u64 u] w fun e w' =>
   e=.returned (.tuple #[])∧∃ (n v':Nat) (dk:Array UInt8),w'=(putRow (fun (b:UInt8)=>Value.int .u8 (b.toNat:Int)) w blk off dk).drewN n∧FmtInv d.size u 0 v' dk:=Any.internal_strconv_formatBase10 Tryd.lays285 blk off cap u d w hH hu hu64 hsz
def Tryd.laysM171_ren:Go.Shelf.Ren:=⟨fun | 171=>59 | 243=>85 | 246=>103 | 283=>115 | 284=>116 | 285=>117 | 286=>118 | 129=>137 | 317=>136 | 318=>138 | 319=>139 | 320=>140 | 337=>147 | 338=>148 | n=>n,fun | 3=>3 | 9=>9 | 2=>2 | 4=>4 | 171=>197 | 0=>0 | 53=>142 | 37=>40 | 5=>5 | 173=>200 | 212=>215 | 51=>84 | 20=>20 | 213=>216 | 46=>204 | 232=>229 | 233=>230 | n=>n,fun | 17=>1 | 18=>4 | 19=>5 | n=>n⟩
theorem Tryd.laysM171:Go.Proofs.LaysM.n171 Tryd.prog Tryd.laysM171_ren:={
 mixed:=by kernel_rfl
 f129:=Tryd.func137.trans (congrArg some (by kernel_rfl))
 f171:=Tryd.func59.trans (congrArg some (by kernel_rfl))
 f243:=Tryd.func85.trans (congrArg some (by kernel_rfl))
 f246:=Tryd.func103.trans (congrArg some (by kernel_rfl))
 f283:=Tryd.func115.trans (congrArg some (by kernel_rfl))
 f284:=Tryd.func116.trans (congrArg some (by kernel_rfl))
 f285:=Tryd.func117.trans (congrArg some (by kernel_rfl))
 f286:=Tryd.func118.trans (congrArg some (by kernel_rfl))
 f317:=Tryd.func136.trans (congrArg some (by kernel_rfl))
 f318:=Tryd.func138.trans (congrArg some (by kernel_rfl))
 f319:=Tryd.func139.trans (congrArg some (by kernel_rfl))
 f320:=Tryd.func140.trans (congrArg some (by kernel_rfl))
 f337:=Tryd.func147.trans (congrArg some (by kernel_rfl))
 f338:=Tryd.func148.trans (congrArg some (by kernel_rfl))
 t0:=Tryd.underlying0
 a0:=Tryd.isAgg0
 z0:=Tryd.sizeOf0
 v0:=Tryd.zeroValue0
 t2:=Tryd.underlying2
 a2:=Tryd.isAgg2
 z2:=Tryd.sizeOf2
 v2:=Tryd.zeroValue2
 t3:=Tryd.underlying3
 a3:=Tryd.isAgg3
 z3:=Tryd.sizeOf3
 v3:=Tryd.zeroValue3
 t4:=Tryd.underlying4
 a4:=Tryd.isAgg4
 z4:=Tryd.sizeOf4
 v4:=Tryd.zeroValue4
 t5:=Tryd.underlying5
 a5:=Tryd.isAgg5
 z5:=Tryd.sizeOf5
 v5:=Tryd.zeroValue5
 t9:=Tryd.underlying9
 a9:=Tryd.isAgg9
 z9:=Tryd.sizeOf9
 v9:=Tryd.zeroValue9
 t20:=Tryd.underlying20
 a20:=Tryd.isAgg20
 z20:=Tryd.sizeOf20
 v20:=Tryd.zeroValue20
 t37:=Tryd.underlying40
 a37:=Tryd.isAgg40
 z37:=Tryd.sizeOf40
 v37:=Tryd.zeroValue40
 t46:=Tryd.underlying204
 a46:=Tryd.isAgg204
 z46:=Tryd.sizeOf204
 v46:=Tryd.zeroValue204
 t51:=Tryd.underlying84
 a51:=Tryd.isAgg84
 z51:=Tryd.sizeOf84
 v51:=Tryd.zeroValue84
 t53:=Tryd.underlying142
 a53:=Tryd.isAgg142
 z53:=Tryd.sizeOf142
 v53:=Tryd.zeroValue142
 t171:=Tryd.underlying197
 a171:=Tryd.isAgg197
 z171:=Tryd.sizeOf197
 v171:=Tryd.zeroValue197
 t173:=Tryd.underlying200
 a173:=Tryd.isAgg200
 z173:=Tryd.sizeOf200
 v173:=Tryd.zeroValue200
 t212:=Tryd.underlying215
 a212:=Tryd.isAgg215
 z212:=Tryd.sizeOf215
 v212:=Tryd.zeroValue215
 t213:=Tryd.underlying216
 a213:=Tryd.isAgg216
 z213:=Tryd.sizeOf216
 t232:=Tryd.underlying229
 a232:=Tryd.isAgg229
 z232:=Tryd.sizeOf229
 v232:=Tryd.zeroValue229
 t233:=Tryd.underlying230
 a233:=Tryd.isAgg230
 z233:=Tryd.sizeOf230
 v233:=Tryd.zeroValue230
 g17:=by kernel_rfl
 g18:=by kernel_rfl
 g19:=by kernel_rfl
 i0:=by kernel_rfl
 i2:=by kernel_rfl
 i3:=by kernel_rfl
 i4:=by kernel_rfl
 i5:=by kernel_rfl
 i9:=by kernel_rfl
 i20:=by kernel_rfl
 i37:=by kernel_rfl
 i46:=by kernel_rfl
 i51:=by kernel_rfl
 i53:=by kernel_rfl
 i171:=by kernel_rfl
 i173:=by kernel_rfl
 i212:=by kernel_rfl
 i232:=by kernel_rfl
 i233:=by kernel_rfl
 m17:=by kernel_rfl
 m18:=by kernel_rfl
 m19:=by kernel_rfl }
open Go.RowKit Go.Sort Go.Lib in
theorem Tryd.strconv_Itoa (n : Int) (h0 : -9223372036854775808 ≤ n) (h1 : n ≤ 9223372036854775807) (w : World) (htab : Lib.TabIs Tryd.prog w "internal/strconv.uint64pow10" .u64 Lib.pow10Tab) :
  Calls Tryd.prog 59 #[.int .i64 n] w fun e w'=>e=.returned (.string ⟨(Lib.itoa n).toArray⟩)∧∃ k os,w'=grow (w.drewN k) os:=Any.strconv_Itoa Tryd.laysM171 n h0 h1 w htab
def Tryd.laysPu14_ren:Go.Shelf.Ren:=⟨fun | 14=>90 | 16=>104 | 17=>105 | 19=>119 | 20=>120 | 21=>121 | 22=>122 | 23=>123 | 24=>124 | 25=>141 | 27=>59 | 26=>142 | 28=>85 | 29=>103 | 30=>115 | 31=>116 | 32=>117 | 33=>118 | 35=>137 | 34=>136 | 36=>138 | 37=>139 | 38=>140 | 39=>147 | 40=>148 | n=>n,fun | 9=>9 | 3=>3 | 22=>142 | 24=>165 | 25=>174 | 4=>4 | 34=>202 | 5=>5 | 36=>204 | 37=>40 | 0=>0 | 39=>205 | 21=>21 | 44=>220 | 47=>134 | 50=>228 | 48=>226 | 2=>2 | 52=>197 | 55=>200 | 59=>215 | 60=>84 | 20=>20 | 61=>216 | 65=>229 | 66=>230 | 67=>72 | n=>n,fun | 0=>2 | 1=>3 | 2=>1 | 3=>4 | 4=>5 | n=>n⟩
theorem Tryd.laysPu14:Go.Proofs.LaysPu.n14 Tryd.prog Tryd.laysPu14_ren:={
 mixed:=by kernel_rfl
 f14:=Tryd.func90.trans (congrArg some (by kernel_rfl))
 f16:=Tryd.func104.trans (congrArg some (by kernel_rfl))
 f17:=Tryd.func105.trans (congrArg some (by kernel_rfl))
 f19:=Tryd.func119.trans (congrArg some (by kernel_rfl))
 f20:=Tryd.func120.trans (congrArg some (by kernel_rfl))
 f21:=Tryd.func121.trans (congrArg some (by kernel_rfl))
 f22:=Tryd.func122.trans (congrArg some (by kernel_rfl))
 f23:=Tryd.func123.trans (congrArg some (by kernel_rfl))
 f24:=Tryd.func124.trans (congrArg some (by kernel_rfl))
 f25:=Tryd.func141.trans (congrArg some (by kernel_rfl))
 f26:=Tryd.func142.trans (congrArg some (by kernel_rfl))
 f27:=Tryd.func59.trans (congrArg some (by kernel_rfl))
 f28:=Tryd.func85.trans (congrArg some (by kernel_rfl))
 f29:=Tryd.func103.trans (congrArg some (by kernel_rfl))
 f30:=Tryd.func115.trans (congrArg some (by kernel_rfl))
 f31:=Tryd.func116.trans (congrArg some (by kernel_rfl))
 f32:=Tryd.func117.trans (congrArg some (by kernel_rfl))
 f33:=Tryd.func118.trans (congrArg some (by kernel_rfl))
 f34:=Tryd.func136.trans (congrArg some (by kernel_rfl))
 f35:=Tryd.func137.trans (congrArg some (by kernel_rfl))
 f36:=Tryd.func138.trans (congrArg some (by kernel_rfl))
 f37:=Tryd.func139.trans (congrArg some (by kernel_rfl))
 f38:=Tryd.func140.trans (congrArg some (by kernel_rfl))
 f39:=Tryd.func147.trans (congrArg some (by kernel_rfl))
 f40:=Tryd.func148.trans (congrArg some (by kernel_rfl))
 t0:=Tryd.underlying0
 a0:=Tryd.isAgg0
 z0:=Tryd.sizeOf0
 v0:=Tryd.zeroValue0
 i0:=by kernel_rfl
 t2:=Tryd.underlying2
 a2:=Tryd.isAgg2
 z2:=Tryd.sizeOf2
 v2:=Tryd.zeroValue2
 i2:=by kernel_rfl
 t3:=Tryd.underlying3
 a3:=Tryd.isAgg3
 z3:=Tryd.sizeOf3
 v3:=Tryd.zeroValue3
 i3:=by kernel_rfl
 t4:=Tryd.underlying4
 a4:=Tryd.isAgg4
 z4:=Tryd.sizeOf4
 v4:=Tryd.zeroValue4
 i4:=by kernel_rfl
 t5:=Tryd.underlying5
 a5:=Tryd.isAgg5
 z5:=Tryd.sizeOf5
 v5:=Tryd.zeroValue5
 i5:=by kernel_rfl
 t9:=Tryd.underlying9
 a9:=Tryd.isAgg9
 z9:=Tryd.sizeOf9
 v9:=Tryd.zeroValue9
 i9:=by kernel_rfl
 t20:=Tryd.underlying20
 a20:=Tryd.isAgg20
 z20:=Tryd.sizeOf20
 v20:=Tryd.zeroValue20
 i20:=by kernel_rfl
 t21:=Tryd.underlying21
 a21:=Tryd.isAgg21
 z21:=Tryd.sizeOf21
 v21:=Tryd.zeroValue21
 i21:=by kernel_rfl
 t22:=Tryd.underlying142
 a22:=Tryd.isAgg142
 z22:=Tryd.sizeOf142
 v22:=Tryd.zeroValue142
 i22:=by kernel_rfl
 t24:=Tryd.underlying165
 a24:=Tryd.isAgg165
 z24:=Tryd.sizeOf165
 v24:=Tryd.zeroValue165
 i24:=by kernel_rfl
 t25:=Tryd.underlying174
 a25:=Tryd.isAgg174
 z25:=Tryd.sizeOf174
 v25:=Tryd.zeroValue174
 i25:=by kernel_rfl
 t34:=Tryd.underlying202
 a34:=Tryd.isAgg202
 z34:=Tryd.sizeOf202
 v34:=Tryd.zeroValue202
 i34:=by kernel_rfl
 c34:=by kernel_rfl
 t36:=Tryd.underlying204
 a36:=Tryd.isAgg204
 z36:=Tryd.sizeOf204
 v36:=Tryd.zeroValue204
 i36:=by kernel_rfl
 t37:=Tryd.underlying40
 a37:=Tryd.isAgg40
 z37:=Tryd.sizeOf40
 v37:=Tryd.zeroValue40
 i37:=by kernel_rfl
 t39:=Tryd.underlying205
 a39:=Tryd.isAgg205
 z39:=Tryd.sizeOf205
 v39:=Tryd.zeroValue205
 i39:=by kernel_rfl
 t44:=Tryd.underlying220
 a44:=Tryd.isAgg220
 z44:=Tryd.sizeOf220
 v44:=Tryd.zeroValue220
 i44:=by kernel_rfl
 t47:=Tryd.underlying134
 a47:=Tryd.isAgg134
 z47:=Tryd.sizeOf134
 v47:=Tryd.zeroValue134
 i47:=by kernel_rfl
 t48:=Tryd.underlying226
 a48:=Tryd.isAgg226
 z48:=Tryd.sizeOf226
 v48:=Tryd.zeroValue226
 i48:=by kernel_rfl
 t50:=Tryd.underlying228
 a50:=Tryd.isAgg228
 z50:=Tryd.sizeOf228
 v50:=Tryd.zeroValue228
 i50:=by kernel_rfl
 t52:=Tryd.underlying197
 a52:=Tryd.isAgg197
 z52:=Tryd.sizeOf197
 v52:=Tryd.zeroValue197
 i52:=by kernel_rfl
 t55:=Tryd.underlying200
 a55:=Tryd.isAgg200
 z55:=Tryd.sizeOf200
 v55:=Tryd.zeroValue200
 i55:=by kernel_rfl
 t59:=Tryd.underlying215
 a59:=Tryd.isAgg215
 z59:=Tryd.sizeOf215
 v59:=Tryd.zeroValue215
 i59:=by kernel_rfl
 t60:=Tryd.underlying84
 a60:=Tryd.isAgg84
 z60:=Tryd.sizeOf84
 v60:=Tryd.zeroValue84
 i60:=by kernel_rfl
 t61:=Tryd.underlying216
 a61:=Tryd.isAgg216
 z61:=Tryd.sizeOf216
 t65:=Tryd.underlying229
 a65:=Tryd.isAgg229
 z65:=Tryd.sizeOf229
 v65:=Tryd.zeroValue229
 i65:=by kernel_rfl
 t66:=Tryd.underlying230
 a66:=Tryd.isAgg230
 z66:=Tryd.sizeOf230
 v66:=Tryd.zeroValue230
 i66:=by kernel_rfl
 t67:=Tryd.underlying72
 a67:=Tryd.isAgg72
 z67:=Tryd.sizeOf72
 v67:=Tryd.zeroValue72
 i67:=by kernel_rfl
 g0:=by kernel_rfl
 m0:=by kernel_rfl
 g1:=by kernel_rfl
 m1:=by kernel_rfl
 g2:=by kernel_rfl
 m2:=by kernel_rfl
 g3:=by kernel_rfl
 m3:=by kernel_rfl
 g4:=by kernel_rfl
 m4:=by kernel_rfl }
open Go.RowKit in
theorem Tryd.strconv_ParseUint_10_at64_ok (s:ByteArray) (hmax:s.size≤9223372036854775806) (u:Nat) (h:Lib.parseUintB 64 s.data.toList=.ok u) (w:World) :
  Calls Tryd.prog 90 #[.string s,.int .i64 10,.int .i64 64] w fun e w'=>e=.returned (.tuple #[.int .u64 u,.nilIface])∧(w'=w∨w'=Lib.bytesWorld w 5 s):=Any.strconv_ParseUint_10_at64_ok Tryd.laysPu14 s hmax u h w
open Go.RowKit in
theorem Tryd.strconv_ParseUint_10_at64_syntax (s:ByteArray) (hlim:s.size≤281474976710656) (h:Lib.parseUintB 64 s.data.toList=.«syntax») (ev:Value) (w:World) (hv:w.cell? ⟨2,0,none⟩=some ev) (hev:ev=.nilIface∨∃ te pe,ev=.iface te pe) :
  Calls Tryd.prog 90 #[.string s,.int .i64 10,.int .i64 64] w fun e w'=>∃ N,e=.returned (.tuple #[.int .u64 0,.iface 205 (.pointer (some ⟨N,0,none⟩))])∧w.heap.size≤N∧w'.heap[N]?=some (.cells #[.string ⟨#[80,97,114,115,101,85,105,110,116]⟩,.string s,ev] 220 (0,0))∧Below w.heap.size w w':=Any.strconv_ParseUint_10_at64_syntax Tryd.laysPu14 s hlim h ev w hv hev
open Go.RowKit in
theorem Tryd.strconv_ParseUint_10_at64_range (s:ByteArray) (hlim:s.size≤281474976710656) (h:Lib.parseUintB 64 s.data.toList=.range) (ev:Value) (w:World) (hv:w.cell? ⟨3,0,none⟩=some ev) (hev:ev=.nilIface∨∃ te pe,ev=.iface te pe) :
  Calls Tryd.prog 90 #[.string s,.int .i64 10,.int .i64 64] w fun e w'=>∃ N,e=.returned (.tuple #[.int .u64 18446744073709551615,.iface 205 (.pointer (some ⟨N,0,none⟩))])∧w.heap.size≤N∧w'.heap[N]?=some (.cells #[.string ⟨#[80,97,114,115,101,85,105,110,116]⟩,.string s,ev] 220 (0,0))∧Below w.heap.size w w':=Any.strconv_ParseUint_10_at64_range Tryd.laysPu14 s hlim h ev w hv hev
def Tryd.lays145_ren:Go.Shelf.Ren:=⟨fun | 145=>71 | 220=>93 | 219=>108 | 217=>125 | 225=>126 | 224=>127 | 267=>128 | 266=>143 | 314=>144 | n=>n,fun | 9=>9 | 4=>4 | 59=>87 | 3=>3 | 5=>5 | 46=>204 | 146=>222 | 51=>84 | n=>n,fun | 1=>0 | n=>n⟩
theorem Tryd.lays145:Go.Proofs.Lays.n145 Tryd.prog Tryd.lays145_ren:={
 mixed:=by kernel_rfl
 f145:=Tryd.func71.trans (congrArg some (by kernel_rfl))
 f217:=Tryd.func125.trans (congrArg some (by kernel_rfl))
 f219:=Tryd.func108.trans (congrArg some (by kernel_rfl))
 f220:=Tryd.func93.trans (congrArg some (by kernel_rfl))
 f224:=Tryd.func127.trans (congrArg some (by kernel_rfl))
 f225:=Tryd.func126.trans (congrArg some (by kernel_rfl))
 f266:=Tryd.func143.trans (congrArg some (by kernel_rfl))
 f267:=Tryd.func128.trans (congrArg some (by kernel_rfl))
 f314:=Tryd.func144.trans (congrArg some (by kernel_rfl))
 t3:=Tryd.underlying3
 a3:=Tryd.isAgg3
 z3:=Tryd.sizeOf3
 v3:=Tryd.zeroValue3
 t4:=Tryd.underlying4
 a4:=Tryd.isAgg4
 z4:=Tryd.sizeOf4
 v4:=Tryd.zeroValue4
 t5:=Tryd.underlying5
 a5:=Tryd.isAgg5
 z5:=Tryd.sizeOf5
 v5:=Tryd.zeroValue5
 t9:=Tryd.underlying9
 a9:=Tryd.isAgg9
 z9:=Tryd.sizeOf9
 v9:=Tryd.zeroValue9
 t46:=Tryd.underlying204
 a46:=Tryd.isAgg204
 z46:=Tryd.sizeOf204
 v46:=Tryd.zeroValue204
 t51:=Tryd.underlying84
 a51:=Tryd.isAgg84
 z51:=Tryd.sizeOf84
 v51:=Tryd.zeroValue84
 t59:=Tryd.underlying87
 a59:=Tryd.isAgg87
 z59:=Tryd.sizeOf87
 v59:=Tryd.zeroValue87
 t146:=Tryd.underlying222
 a146:=Tryd.isAgg222
 z146:=Tryd.sizeOf222
 v146:=Tryd.zeroValue222
 g1:=by kernel_rfl }
open Go.RowKit Go.Lib in
theorem Tryd.strings_Cut (s sep:ByteArray) (m:Int) (w:World) (hs:s.size<4294967281) (hm:w.cell? ⟨0,0,none⟩=some (.int .i64 m)) :
  Calls Tryd.prog 71 #[.string s,.string sep] w fun e w'=>e=.returned (.tuple #[.string ⟨(Lib.cut s.data.toList sep.data.toList).1.toArray⟩,.string ⟨(Lib.cut s.data.toList sep.data.toList).2.1.toArray⟩,.bool (Lib.cut s.data.toList sep.data.toList).2.2])∧∃ n,w'=w.drewN n:=Any.strings_Cut Tryd.lays145 s sep m w hs hm
end Go.Proofs
