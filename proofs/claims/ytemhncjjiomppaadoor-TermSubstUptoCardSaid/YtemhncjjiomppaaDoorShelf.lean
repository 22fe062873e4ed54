/-
  DERIVED: THE SHELF's CONTRACTS AT THIS DUMP, IN PLAIN WORDS (tools/lay-plain.mjs out of 'TrydShelf.lean', which tools/lay-shelf.mjs wrote): THE SAME DECLARATIONS UNDER THE SAME NAMES: 'import', 'namespace', 'open', 'def', 'theorem' AND NOTHING ELSE: no command of the shelf's: FOR A HAND-IN. Each laying: the table of numbers ('.._ren') and one theorem, a field a fact of the dump's own or the kernel's comparison; each contract: ONE APPLICATION.
-/
import Derived.Shelf.Strings.Builder1
import Derived.Shelf.Small.Bits
import Derived.Shelf.Small.Wraps
import Derived.Shelf.Strings.BuilderF
import Derived.Shelf.Strings.BuilderK
import Derived.Shelf.Strconv.Itoa0
import Derived.Shelf.Strconv.Itoa1
import Derived.Shelf.LaysM
import Derived.Shelf.Strconv.Itoa2
import Derived.Shelf.Strconv.Itoa3
import Derived.Shelf.Strconv.Clone
import Derived.Shelf.Strconv.SyntaxError
import Derived.Shelf.LaysC
import Derived.Shelf.Strconv.ToError
import Derived.Shelf.Strconv.Lower
import Derived.Shelf.Strconv.ParseUint10
import Derived.Shelf.Strconv.ParseUint10Empty
import Derived.Shelf.Strconv.ParseUint10Any
import Derived.Shelf.Strconv.RangeError
import Derived.Shelf.Strconv.ToErrorRange
import Derived.Shelf.Strconv.ParseUintEmpty
import Derived.Shelf.Strconv.ParseUint10b64
import Derived.Shelf.Strconv.ParseUint10b32
import Derived.Shelf.Strconv.ParseUint10b16
import Derived.Shelf.Strconv.ParseUint10b8
import Derived.Shelf.Strconv.ParseUint10At
import Derived.Ground.MpProg
import Derived.Shelf.Pu.ParseUintPublic10
import Derived.Shelf.Pu.ErrVarParseUint
import Derived.Shelf.Strings.Search1
import Derived.Shelf.Strings.Search2
import Derived.Shelf.Strings.Cut
import Derived.Shelf.Strings.Shaped
import Derived.Shelf.Sort.Plain
import Derived.Shelf.Strings.Prefix
import Derived.Shelf.Strings.BuilderCap
import Derived.Shelf.Slices.Reverse
import Derived.Shelf.Slices.CompactS
import Derived.Shelf.Slices.Cells
import Derived.Shelf.Slices.In.SortNone
import Derived.Ground.SlgnProg
import Derived.Shelf.SlicesE.Reverse
import Derived.Shelf.SlicesE.Clone
import Derived.Test.YtemhncjjiomppaaDoorProg
namespace Go.Proofs
open Go.Shelf
def Tryd.laysM171_ren:Go.Shelf.Ren:=⟨fun | 171=>74 | 243=>112 | 246=>132 | 283=>145 | 284=>146 | 285=>147 | 286=>148 | 129=>104 | 317=>161 | 318=>162 | 319=>163 | 320=>164 | 337=>173 | 338=>174 | n=>n,fun | 3=>3 | 9=>9 | 2=>2 | 4=>4 | 171=>228 | 0=>0 | 53=>137 | 37=>46 | 5=>5 | 173=>230 | 212=>242 | 51=>57 | 20=>20 | 213=>243 | 46=>126 | 232=>254 | 233=>255 | n=>n,fun | 17=>1 | 18=>4 | 19=>5 | n=>n⟩
theorem Tryd.laysM171:Go.Proofs.LaysM.n171 Tryd.prog Tryd.laysM171_ren:={
 mixed:=by kernel_rfl
 f129:=Tryd.func104.trans (congrArg some (by kernel_rfl))
 f171:=Tryd.func74.trans (congrArg some (by kernel_rfl))
 f243:=Tryd.func112.trans (congrArg some (by kernel_rfl))
 f246:=Tryd.func132.trans (congrArg some (by kernel_rfl))
 f283:=Tryd.func145.trans (congrArg some (by kernel_rfl))
 f284:=Tryd.func146.trans (congrArg some (by kernel_rfl))
 f285:=Tryd.func147.trans (congrArg some (by kernel_rfl))
 f286:=Tryd.func148.trans (congrArg some (by kernel_rfl))
 f317:=Tryd.func161.trans (congrArg some (by kernel_rfl))
 f318:=Tryd.func162.trans (congrArg some (by kernel_rfl))
 f319:=Tryd.func163.trans (congrArg some (by kernel_rfl))
 f320:=Tryd.func164.trans (congrArg some (by kernel_rfl))
 f337:=Tryd.func173.trans (congrArg some (by kernel_rfl))
 f338:=Tryd.func174.trans (congrArg some (by kernel_rfl))
 t0:=Tryd.underlying0
 a0:=Tryd.isAgg0
 z0:=Tryd.sizeOf0
 v0:=Tryd.zeroValue0
 t2:=Tryd.underlying2
 a2:=Tryd.isAgg2
 z2:=Tryd.sizeOf2
 v2:=Tryd.zeroValue2
 t3:=Tryd.underlying3
 a3:=Tryd.isAgg3
 z3:=Tryd.sizeOf3
 v3:=Tryd.zeroValue3
 t4:=Tryd.underlying4
 a4:=Tryd.isAgg4
 z4:=Tryd.sizeOf4
 v4:=Tryd.zeroValue4
 t5:=Tryd.underlying5
 a5:=Tryd.isAgg5
 z5:=Tryd.sizeOf5
 v5:=Tryd.zeroValue5
 t9:=Tryd.underlying9
 a9:=Tryd.isAgg9
 z9:=Tryd.sizeOf9
 v9:=Tryd.zeroValue9
 t20:=Tryd.underlying20
 a20:=Tryd.isAgg20
 z20:=Tryd.sizeOf20
 v20:=Tryd.zeroValue20
 t37:=Tryd.underlying46
 a37:=Tryd.isAgg46
 z37:=Tryd.sizeOf46
 v37:=Tryd.zeroValue46
 t46:=Tryd.underlying126
 a46:=Tryd.isAgg126
 z46:=Tryd.sizeOf126
 v46:=Tryd.zeroValue126
 t51:=Tryd.underlying57
 a51:=Tryd.isAgg57
 z51:=Tryd.sizeOf57
 v51:=Tryd.zeroValue57
 t53:=Tryd.underlying137
 a53:=Tryd.isAgg137
 z53:=Tryd.sizeOf137
 v53:=Tryd.zeroValue137
 t171:=Tryd.underlying228
 a171:=Tryd.isAgg228
 z171:=Tryd.sizeOf228
 v171:=Tryd.zeroValue228
 t173:=Tryd.underlying230
 a173:=Tryd.isAgg230
 z173:=Tryd.sizeOf230
 v173:=Tryd.zeroValue230
 t212:=Tryd.underlying242
 a212:=Tryd.isAgg242
 z212:=Tryd.sizeOf242
 v212:=Tryd.zeroValue242
 t213:=Tryd.underlying243
 a213:=Tryd.isAgg243
 z213:=Tryd.sizeOf243
 t232:=Tryd.underlying254
 a232:=Tryd.isAgg254
 z232:=Tryd.sizeOf254
 v232:=Tryd.zeroValue254
 t233:=Tryd.underlying255
 a233:=Tryd.isAgg255
 z233:=Tryd.sizeOf255
 v233:=Tryd.zeroValue255
 g17:=by kernel_rfl
 g18:=by kernel_rfl
 g19:=by kernel_rfl
 i0:=by kernel_rfl
 i2:=by kernel_rfl
 i3:=by kernel_rfl
 i4:=by kernel_rfl
 i5:=by kernel_rfl
 i9:=by kernel_rfl
 i20:=by kernel_rfl
 i37:=by kernel_rfl
 i46:=by kernel_rfl
 i51:=by kernel_rfl
 i53:=by kernel_rfl
 i171:=by kernel_rfl
 i173:=by kernel_rfl
 i212:=by kernel_rfl
 i232:=by kernel_rfl
 i233:=by kernel_rfl
 m17:=by kernel_rfl
 m18:=by kernel_rfl
 m19:=by kernel_rfl }
open Go.RowKit Go.Sort Go.Lib in
theorem Tryd.strconv_Itoa (n : Int) (h0 : -9223372036854775808 ≤ n) (h1 : n ≤ 9223372036854775807) (w : World) (htab : Lib.TabIs Tryd.prog w "internal/strconv.uint64pow10" .u64 Lib.pow10Tab) :
  Calls Tryd.prog 74 #[.int .i64 n] w fun e w'=>e=.returned (.string ⟨(Lib.itoa n).toArray⟩)∧∃ k os,w'=grow (w.drewN k) os:=Any.strconv_Itoa Tryd.laysM171 n h0 h1 w htab
def Tryd.lays190_ren:Go.Shelf.Ren:=⟨fun | 190=>36 | 125=>69 | 258=>68 | 128=>103 | 129=>104 | 302=>94 | 303=>95 | 304=>96 | 305=>97 | 306=>98 | 307=>99 | 308=>100 | 309=>101 | 310=>102 | 333=>121 | 329=>122 | 330=>123 | 334=>124 | 335=>125 | 336=>126 | 344=>140 | n=>n,fun | 31=>31 | 9=>9 | 3=>3 | 46=>126 | 0=>0 | 51=>57 | 53=>137 | 4=>4 | 183=>174 | 182=>173 | 131=>179 | 5=>5 | 218=>203 | 222=>207 | 228=>220 | 229=>221 | n=>n,fun | n=>n⟩
theorem Tryd.lays190:Go.Proofs.Lays.n190 Tryd.prog Tryd.lays190_ren:={
 mixed:=by kernel_rfl
 f125:=Tryd.func69.trans (congrArg some (by kernel_rfl))
 f128:=Tryd.func103.trans (congrArg some (by kernel_rfl))
 f129:=Tryd.func104.trans (congrArg some (by kernel_rfl))
 f190:=Tryd.func36.trans (congrArg some (by kernel_rfl))
 f258:=Tryd.func68.trans (congrArg some (by kernel_rfl))
 f302:=Tryd.func94.trans (congrArg some (by kernel_rfl))
 f303:=Tryd.func95.trans (congrArg some (by kernel_rfl))
 f304:=Tryd.func96.trans (congrArg some (by kernel_rfl))
 f305:=Tryd.func97.trans (congrArg some (by kernel_rfl))
 f306:=Tryd.func98.trans (congrArg some (by kernel_rfl))
 f307:=Tryd.func99.trans (congrArg some (by kernel_rfl))
 f308:=Tryd.func100.trans (congrArg some (by kernel_rfl))
 f309:=Tryd.func101.trans (congrArg some (by kernel_rfl))
 f310:=Tryd.func102.trans (congrArg some (by kernel_rfl))
 f329:=Tryd.func122.trans (congrArg some (by kernel_rfl))
 f330:=Tryd.func123.trans (congrArg some (by kernel_rfl))
 f333:=Tryd.func121.trans (congrArg some (by kernel_rfl))
 f334:=Tryd.func124.trans (congrArg some (by kernel_rfl))
 f335:=Tryd.func125.trans (congrArg some (by kernel_rfl))
 f336:=Tryd.func126.trans (congrArg some (by kernel_rfl))
 f344:=Tryd.func140.trans (congrArg some (by kernel_rfl))
 t0:=Tryd.underlying0
 a0:=Tryd.isAgg0
 z0:=Tryd.sizeOf0
 v0:=Tryd.zeroValue0
 t3:=Tryd.underlying3
 a3:=Tryd.isAgg3
 z3:=Tryd.sizeOf3
 v3:=Tryd.zeroValue3
 t4:=Tryd.underlying4
 a4:=Tryd.isAgg4
 z4:=Tryd.sizeOf4
 v4:=Tryd.zeroValue4
 t5:=Tryd.underlying5
 a5:=Tryd.isAgg5
 z5:=Tryd.sizeOf5
 v5:=Tryd.zeroValue5
 t9:=Tryd.underlying9
 a9:=Tryd.isAgg9
 z9:=Tryd.sizeOf9
 v9:=Tryd.zeroValue9
 t31:=Tryd.underlying31
 a31:=Tryd.isAgg31
 z31:=Tryd.sizeOf31
 v31:=Tryd.zeroValue31
 t46:=Tryd.underlying126
 a46:=Tryd.isAgg126
 z46:=Tryd.sizeOf126
 v46:=Tryd.zeroValue126
 t51:=Tryd.underlying57
 a51:=Tryd.isAgg57
 z51:=Tryd.sizeOf57
 v51:=Tryd.zeroValue57
 t53:=Tryd.underlying137
 a53:=Tryd.isAgg137
 z53:=Tryd.sizeOf137
 v53:=Tryd.zeroValue137
 t131:=Tryd.underlying179
 a131:=Tryd.isAgg179
 z131:=Tryd.sizeOf179
 v131:=Tryd.zeroValue179
 t182:=Tryd.underlying173
 a182:=Tryd.isAgg173
 z182:=Tryd.sizeOf173
 v182:=Tryd.zeroValue173
 t183:=Tryd.underlying174
 a183:=Tryd.isAgg174
 z183:=Tryd.sizeOf174
 v183:=Tryd.zeroValue174
 t218:=Tryd.underlying203
 a218:=Tryd.isAgg203
 z218:=Tryd.sizeOf203
 v218:=Tryd.zeroValue203
 t222:=Tryd.underlying207
 a222:=Tryd.isAgg207
 z222:=Tryd.sizeOf207
 v222:=Tryd.zeroValue207
 t228:=Tryd.underlying220
 a228:=Tryd.isAgg220
 z228:=Tryd.sizeOf220
 v228:=Tryd.zeroValue220
 t229:=Tryd.underlying221
 a229:=Tryd.isAgg221
 z229:=Tryd.sizeOf221
 v229:=Tryd.zeroValue221 }
open Go.Sort Go.RowKit in
theorem Tryd.slices_Sort_string (blk off cap:Nat) (ss:List (List UInt8)) (w:World) (hH:Holds encStr w blk off ss.toArray) (hblk:blk<w.heap.size) (hsz:ss.length<4611686018427387904) :
  Calls Tryd.prog 36 #[.slice (some ⟨blk,off,none⟩) ss.length cap] w fun e w' =>
   e=.returned (.tuple #[])∧∃ n os,w'=grow (putRow encStr (Sort.ahead w n) blk off (ss.mergeSort fun x y=>decide (x≤y)).toArray) os:=Any.slices_Sort_string Tryd.lays190 blk off cap ss w hH hblk hsz
def Tryd.lays194_ren:Go.Shelf.Ren:=⟨fun | 194=>37 | n=>n,fun | 31=>31 | 9=>9 | 3=>3 | 4=>4 | 0=>0 | n=>n,fun | n=>n⟩
theorem Tryd.lays194:Go.Proofs.Lays.n194 Tryd.prog Tryd.lays194_ren:={
 mixed:=by kernel_rfl
 f194:=Tryd.func37.trans (congrArg some (by kernel_rfl))
 t0:=Tryd.underlying0
 a0:=Tryd.isAgg0
 z0:=Tryd.sizeOf0
 v0:=Tryd.zeroValue0
 t3:=Tryd.underlying3
 a3:=Tryd.isAgg3
 z3:=Tryd.sizeOf3
 v3:=Tryd.zeroValue3
 t4:=Tryd.underlying4
 a4:=Tryd.isAgg4
 z4:=Tryd.sizeOf4
 v4:=Tryd.zeroValue4
 t9:=Tryd.underlying9
 a9:=Tryd.isAgg9
 z9:=Tryd.sizeOf9
 v9:=Tryd.zeroValue9
 t31:=Tryd.underlying31
 a31:=Tryd.isAgg31
 z31:=Tryd.sizeOf31
 v31:=Tryd.zeroValue31 }
open Go.RowKit Go.Lib Go.Sort in
theorem Tryd.slices_Compact_string (blk off cap:Nat) (zs:List (List UInt8)) (w:World) (hH:Holds encStr w blk off zs.toArray) (hsz:zs.length≤9223372036854775807) (hcap:zs.length≤cap) :
  Calls Tryd.prog 37 #[.slice (some ⟨blk,off,none⟩) zs.length cap] w fun e w'=>e=.returned (.slice (some ⟨blk,off,none⟩) (Lib.compact zs).length cap)∧∃ q,w'=putRow encStr (Sort.ahead w q) blk off (Lib.compact zs++List.replicate (zs.length - (Lib.compact zs).length) []).toArray:=Any.slices_Compact_string Tryd.lays194 blk off cap zs w hH hsz hcap
open Go.RowKit Go.Lib Go.Sort in
theorem Tryd.slices_Compact_string_empty (a:Option Addr) (cap:Nat) (w:World) :
  Calls Tryd.prog 37 #[.slice a 0 cap] w fun e w'=>e=.returned (.slice a 0 cap)∧w'=w:=Any.slices_Compact_string_empty Tryd.lays194 a cap w
open Go.RowKit Go.Sort in
theorem Tryd.slices_Sort_string_none (p:Option Addr) (cap:Nat) (w:World) :
  Calls Tryd.prog 36 #[.slice p 0 cap] w fun e w'=>e=.returned (.tuple #[])∧w'=w:=Any.slices_Sort_string_none Tryd.lays190 p cap w
end Go.Proofs
