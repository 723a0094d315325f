/- Part 23 of the proof of roomForks_card, set without needless blanks. No condition. -/
import Derived.Shelf.Small.Bits
import Derived.Shelf.Small.Wraps
import Derived.Shelf.Utf8.RuneCount
import Derived.Shelf.Strconv.Itoa0
import Derived.Shelf.Strings.Search1
import Derived.Shelf.Strings.Search2
import Derived.Shelf.Strings.Search3
import Derived.Shelf.Strings.Count
import Derived.Shelf.LaysM
import Derived.Shelf.Strings.Shaped
import Derived.Shelf.Sort.Plain
import Derived.Shelf.Strings.LastIndex
import Derived.Shelf.Strings.Prefix
import Derived.Shelf.Strings.Split
import Derived.Shelf.Strings.SplitShaped
import Derived.Shelf.Unicode.Decode
import Derived.Shelf.Strings.RuneCount
import Derived.Shelf.Strings.Explode
import Derived.Shelf.Unicode.DecodeSlow
import Derived.Shelf.Unicode.DecodeAny
import Derived.Shelf.Slices.Reverse
import Derived.Shelf.Slices.CompactS
import Derived.Ground.Names2Prog
import Derived.Shelf.Slices.SearchI
import Derived.Shelf.Slices.Cells
import Derived.Shelf.Slices.In.SortNone
import Derived.Shelf.Bytes.SlIndexAt
import Derived.Shelf.Bytes.Small
import Derived.Shelf.Bytes.IndexByte
import Derived.Test.YtbpblnmhlhpebaaGreatDoorC21
import Derived.Test.YtbpblnmhlhpebaaGreatDoorC12
set_option linter.unusedSimpArgs false
set_option linter.unusedVariables false
set_option maxRecDepth 100000
set_option maxHeartbeats 4000000
namespace Go.Proofs
open Go.Shelf
section
def Tryz.lays106_ren:Go.Shelf.Ren:=⟨fun | 106=>102 | 213=>168 | 265=>242|n=>n,fun | 9=>9 | 3=>3|n=>n,fun|n=>n⟩
theorem Tryz.lays106:Go.Proofs.Lays.n106 Tryz.prog Tryz.lays106_ren:={
 mixed:=by kernel_rfl
 f106:=Tryz.func102.trans (congrArg some (by kernel_rfl))
 f213:=Tryz.func168.trans (congrArg some (by kernel_rfl))
 f265:=Tryz.func242.trans (congrArg some (by kernel_rfl))
 t3:=Tryz.underlying3
 a3:=Tryz.isAgg3
 z3:=Tryz.sizeOf3
 v3:=Tryz.zeroValue3
 t9:=Tryz.underlying9
 a9:=Tryz.isAgg9
 z9:=Tryz.sizeOf9
 v9:=Tryz.zeroValue9 }
open Go.RowKit in
theorem Tryz.strings_Compare (a b:ByteArray) (w:World):
  Calls Tryz.prog 102 #[.string a,.string b] w fun e w'=>e=.returned (.int .i64 (Lib.compareBytes a.data.toList b.data.toList))∧w'=w:=Any.strings_Compare Tryz.lays106 a b w
def Tryz.lays137_ren:Go.Shelf.Ren:=⟨fun | 137=>176 | 217=>248 | 266=>318|n=>n,fun | 9=>9 | 5=>5 | 3=>3|n=>n,fun|n=>n⟩
theorem Tryz.lays137:Go.Proofs.Lays.n137 Tryz.prog Tryz.lays137_ren:={
 mixed:=by kernel_rfl
 f137:=Tryz.func176.trans (congrArg some (by kernel_rfl))
 f217:=Tryz.func248.trans (congrArg some (by kernel_rfl))
 f266:=Tryz.func318.trans (congrArg some (by kernel_rfl))
 t3:=Tryz.underlying3
 a3:=Tryz.isAgg3
 z3:=Tryz.sizeOf3
 v3:=Tryz.zeroValue3
 t5:=Tryz.underlying5
 a5:=Tryz.isAgg5
 z5:=Tryz.sizeOf5
 v5:=Tryz.zeroValue5
 t9:=Tryz.underlying9
 a9:=Tryz.isAgg9
 z9:=Tryz.sizeOf9
 v9:=Tryz.zeroValue9 }
open Go.RowKit in
theorem Tryz.strings_IndexByte (s:ByteArray) (c:Int) (w:World):
  Calls Tryz.prog 176 #[.string s,.int .u8 c] w fun e w'=>e=.returned (.int .i64 (Lib.indexByte s.data.toList c.toNat.toUInt8))∧w'=w:=Any.strings_IndexByte Tryz.lays137 s c w
def Tryz.lays189_ren:Go.Shelf.Ren:=⟨fun | 189=>202 | 125=>167 | 257=>275 | 128=>240 | 129=>241 | 294=>337 | 295=>338 | 296=>339 | 297=>340 | 298=>341 | 299=>342 | 216=>343 | 300=>344 | 301=>345 | 328=>375 | 329=>309 | 330=>310 | 331=>376 | 332=>377 | 215=>334 | 343=>391|n=>n,fun | 28=>58 | 3=>3 | 46=>233 | 0=>0 | 51=>293 | 53=>184 | 4=>4 | 183=>287 | 182=>286 | 131=>137 | 5=>5 | 9=>9 | 218=>332 | 222=>336 | 228=>363 | 229=>339|n=>n,fun|n=>n⟩
theorem Tryz.lays189:Go.Proofs.Lays.n189 Tryz.prog Tryz.lays189_ren:={
 mixed:=by kernel_rfl
 f125:=Tryz.func167.trans (congrArg some (by kernel_rfl))
 f128:=Tryz.func240.trans (congrArg some (by kernel_rfl))
 f129:=Tryz.func241.trans (congrArg some (by kernel_rfl))
 f189:=Tryz.func202.trans (congrArg some (by kernel_rfl))
 f215:=Tryz.func334.trans (congrArg some (by kernel_rfl))
 f216:=Tryz.func343.trans (congrArg some (by kernel_rfl))
 f257:=Tryz.func275.trans (congrArg some (by kernel_rfl))
 f294:=Tryz.func337.trans (congrArg some (by kernel_rfl))
 f295:=Tryz.func338.trans (congrArg some (by kernel_rfl))
 f296:=Tryz.func339.trans (congrArg some (by kernel_rfl))
 f297:=Tryz.func340.trans (congrArg some (by kernel_rfl))
 f298:=Tryz.func341.trans (congrArg some (by kernel_rfl))
 f299:=Tryz.func342.trans (congrArg some (by kernel_rfl))
 f300:=Tryz.func344.trans (congrArg some (by kernel_rfl))
 f301:=Tryz.func345.trans (congrArg some (by kernel_rfl))
 f328:=Tryz.func375.trans (congrArg some (by kernel_rfl))
 f329:=Tryz.func309.trans (congrArg some (by kernel_rfl))
 f330:=Tryz.func310.trans (congrArg some (by kernel_rfl))
 f331:=Tryz.func376.trans (congrArg some (by kernel_rfl))
 f332:=Tryz.func377.trans (congrArg some (by kernel_rfl))
 f343:=Tryz.func391.trans (congrArg some (by kernel_rfl))
 t0:=Tryz.underlying0
 a0:=Tryz.isAgg0
 z0:=Tryz.sizeOf0
 v0:=Tryz.zeroValue0
 t3:=Tryz.underlying3
 a3:=Tryz.isAgg3
 z3:=Tryz.sizeOf3
 v3:=Tryz.zeroValue3
 t4:=Tryz.underlying4
 a4:=Tryz.isAgg4
 z4:=Tryz.sizeOf4
 v4:=Tryz.zeroValue4
 t5:=Tryz.underlying5
 a5:=Tryz.isAgg5
 z5:=Tryz.sizeOf5
 v5:=Tryz.zeroValue5
 t9:=Tryz.underlying9
 a9:=Tryz.isAgg9
 z9:=Tryz.sizeOf9
 v9:=Tryz.zeroValue9
 t28:=Tryz.underlying58
 a28:=Tryz.isAgg58
 z28:=Tryz.sizeOf58
 v28:=Tryz.zeroValue58
 t46:=Tryz.underlying233
 a46:=Tryz.isAgg233
 z46:=Tryz.sizeOf233
 v46:=Tryz.zeroValue233
 t51:=Tryz.underlying293
 a51:=Tryz.isAgg293
 z51:=Tryz.sizeOf293
 v51:=Tryz.zeroValue293
 t53:=Tryz.underlying184
 a53:=Tryz.isAgg184
 z53:=Tryz.sizeOf184
 v53:=Tryz.zeroValue184
 t131:=Tryz.underlying137
 a131:=Tryz.isAgg137
 z131:=Tryz.sizeOf137
 v131:=Tryz.zeroValue137
 t182:=Tryz.underlying286
 a182:=Tryz.isAgg286
 z182:=Tryz.sizeOf286
 v182:=Tryz.zeroValue286
 t183:=Tryz.underlying287
 a183:=Tryz.isAgg287
 z183:=Tryz.sizeOf287
 v183:=Tryz.zeroValue287
 t218:=Tryz.underlying332
 a218:=Tryz.isAgg332
 z218:=Tryz.sizeOf332
 v218:=Tryz.zeroValue332
 t222:=Tryz.underlying336
 a222:=Tryz.isAgg336
 z222:=Tryz.sizeOf336
 v222:=Tryz.zeroValue336
 t228:=Tryz.underlying363
 a228:=Tryz.isAgg363
 z228:=Tryz.sizeOf363
 v228:=Tryz.zeroValue363
 t229:=Tryz.underlying339
 a229:=Tryz.isAgg339
 z229:=Tryz.sizeOf339
 v229:=Tryz.zeroValue339 }
open Go.Sort Go.RowKit in
theorem Tryz.slices_Sort_int (blk off cap:Nat) (zs:List Int) (w:World) (hH:Holds (Value.int .i64) w blk off zs.toArray) (hblk:blk<w.heap.size) (hsz:zs.length<4611686018427387904):
  Calls Tryz.prog 202 #[.slice (some ⟨blk,off,none⟩) zs.length cap] w fun e w' =>
   e=.returned (.tuple #[])∧∃ n os,w'=grow (putRow (Value.int .i64) (Sort.ahead w n) blk off (zs.mergeSort fun x y=>decide (x≤y)).toArray) os:=Any.slices_Sort_int Tryz.lays189 blk off cap zs w hH hblk hsz
def Tryz.lays190_ren:Go.Shelf.Ren:=⟨fun | 190=>133 | 125=>167 | 258=>208 | 128=>240 | 129=>241 | 302=>288 | 303=>289 | 304=>290 | 305=>291 | 306=>292 | 307=>293 | 308=>294 | 309=>295 | 310=>296 | 333=>350 | 329=>309 | 330=>310 | 334=>351 | 335=>352 | 336=>333 | 344=>379|n=>n,fun | 31=>43 | 9=>9 | 3=>3 | 46=>233 | 0=>0 | 51=>293 | 53=>184 | 4=>4 | 183=>287 | 182=>286 | 131=>137 | 5=>5 | 218=>332 | 222=>336 | 228=>363 | 229=>339|n=>n,fun|n=>n⟩
theorem Tryz.lays190:Go.Proofs.Lays.n190 Tryz.prog Tryz.lays190_ren:={
 mixed:=by kernel_rfl
 f125:=Tryz.func167.trans (congrArg some (by kernel_rfl))
 f128:=Tryz.func240.trans (congrArg some (by kernel_rfl))
 f129:=Tryz.func241.trans (congrArg some (by kernel_rfl))
 f190:=Tryz.func133.trans (congrArg some (by kernel_rfl))
 f258:=Tryz.func208.trans (congrArg some (by kernel_rfl))
 f302:=Tryz.func288.trans (congrArg some (by kernel_rfl))
 f303:=Tryz.func289.trans (congrArg some (by kernel_rfl))
 f304:=Tryz.func290.trans (congrArg some (by kernel_rfl))
 f305:=Tryz.func291.trans (congrArg some (by kernel_rfl))
 f306:=Tryz.func292.trans (congrArg some (by kernel_rfl))
 f307:=Tryz.func293.trans (congrArg some (by kernel_rfl))
 f308:=Tryz.func294.trans (congrArg some (by kernel_rfl))
 f309:=Tryz.func295.trans (congrArg some (by kernel_rfl))
 f310:=Tryz.func296.trans (congrArg some (by kernel_rfl))
 f329:=Tryz.func309.trans (congrArg some (by kernel_rfl))
 f330:=Tryz.func310.trans (congrArg some (by kernel_rfl))
 f333:=Tryz.func350.trans (congrArg some (by kernel_rfl))
 f334:=Tryz.func351.trans (congrArg some (by kernel_rfl))
 f335:=Tryz.func352.trans (congrArg some (by kernel_rfl))
 f336:=Tryz.func333.trans (congrArg some (by kernel_rfl))
 f344:=Tryz.func379.trans (congrArg some (by kernel_rfl))
 t0:=Tryz.underlying0
 a0:=Tryz.isAgg0
 z0:=Tryz.sizeOf0
 v0:=Tryz.zeroValue0
 t3:=Tryz.underlying3
 a3:=Tryz.isAgg3
 z3:=Tryz.sizeOf3
 v3:=Tryz.zeroValue3
 t4:=Tryz.underlying4
 a4:=Tryz.isAgg4
 z4:=Tryz.sizeOf4
 v4:=Tryz.zeroValue4
 t5:=Tryz.underlying5
 a5:=Tryz.isAgg5
 z5:=Tryz.sizeOf5
 v5:=Tryz.zeroValue5
 t9:=Tryz.underlying9
 a9:=Tryz.isAgg9
 z9:=Tryz.sizeOf9
 v9:=Tryz.zeroValue9
 t31:=Tryz.underlying43
 a31:=Tryz.isAgg43
 z31:=Tryz.sizeOf43
 v31:=Tryz.zeroValue43
 t46:=Tryz.underlying233
 a46:=Tryz.isAgg233
 z46:=Tryz.sizeOf233
 v46:=Tryz.zeroValue233
 t51:=Tryz.underlying293
 a51:=Tryz.isAgg293
 z51:=Tryz.sizeOf293
 v51:=Tryz.zeroValue293
 t53:=Tryz.underlying184
 a53:=Tryz.isAgg184
 z53:=Tryz.sizeOf184
 v53:=Tryz.zeroValue184
 t131:=Tryz.underlying137
 a131:=Tryz.isAgg137
 z131:=Tryz.sizeOf137
 v131:=Tryz.zeroValue137
 t182:=Tryz.underlying286
 a182:=Tryz.isAgg286
 z182:=Tryz.sizeOf286
 v182:=Tryz.zeroValue286
 t183:=Tryz.underlying287
 a183:=Tryz.isAgg287
 z183:=Tryz.sizeOf287
 v183:=Tryz.zeroValue287
 t218:=Tryz.underlying332
 a218:=Tryz.isAgg332
 z218:=Tryz.sizeOf332
 v218:=Tryz.zeroValue332
 t222:=Tryz.underlying336
 a222:=Tryz.isAgg336
 z222:=Tryz.sizeOf336
 v222:=Tryz.zeroValue336
 t228:=Tryz.underlying363
 a228:=Tryz.isAgg363
 z228:=Tryz.sizeOf363
 v228:=Tryz.zeroValue363
 t229:=Tryz.underlying339
 a229:=Tryz.isAgg339
 z229:=Tryz.sizeOf339
 v229:=Tryz.zeroValue339 }
open Go.Sort Go.RowKit in
theorem Tryz.slices_Sort_string (blk off cap:Nat) (ss:List (List UInt8)) (w:World) (hH:Holds encStr w blk off ss.toArray) (hblk:blk<w.heap.size) (hsz:ss.length<4611686018427387904):
  Calls Tryz.prog 133 #[.slice (some ⟨blk,off,none⟩) ss.length cap] w fun e w' =>
   e=.returned (.tuple #[])∧∃ n os,w'=grow (putRow encStr (Sort.ahead w n) blk off (ss.mergeSort fun x y=>decide (x≤y)).toArray) os:=Any.slices_Sort_string Tryz.lays190 blk off cap ss w hH hblk hsz
def Tryz.lays149_ren:Go.Shelf.Ren:=⟨fun | 149=>246 | 222=>315|n=>n,fun | 9=>9 | 5=>5 | 3=>3 | 4=>4|n=>n,fun|n=>n⟩
theorem Tryz.lays149:Go.Proofs.Lays.n149 Tryz.prog Tryz.lays149_ren:={
 mixed:=by kernel_rfl
 f149:=Tryz.func246.trans (congrArg some (by kernel_rfl))
 f222:=Tryz.func315.trans (congrArg some (by kernel_rfl))
 t3:=Tryz.underlying3
 a3:=Tryz.isAgg3
 z3:=Tryz.sizeOf3
 v3:=Tryz.zeroValue3
 t4:=Tryz.underlying4
 a4:=Tryz.isAgg4
 z4:=Tryz.sizeOf4
 v4:=Tryz.zeroValue4
 t5:=Tryz.underlying5
 a5:=Tryz.isAgg5
 z5:=Tryz.sizeOf5
 v5:=Tryz.zeroValue5
 t9:=Tryz.underlying9
 a9:=Tryz.isAgg9
 z9:=Tryz.sizeOf9
 v9:=Tryz.zeroValue9 }
open Go.RowKit Go.Lib in
theorem Tryz.strings_LastIndexByte (s:ByteArray) (c:Int) (hs:s.size<4611686018427387904) (w:World):
  Calls Tryz.prog 246 #[.string s,.int .u8 c] w fun e w'=>e=.returned (.int .i64 (Lib.lastIndexByte s c))∧w'=w:=Any.strings_LastIndexByte Tryz.lays149 s c hs w
def Tryz.lays99_ren:Go.Shelf.Ren:=⟨fun | 99=>323 | 206=>366|n=>n,fun | 9=>9 | 4=>4 | 3=>3|n=>n,fun|n=>n⟩
theorem Tryz.lays99:Go.Proofs.Lays.n99 Tryz.prog Tryz.lays99_ren:={
 mixed:=by kernel_rfl
 f99:=Tryz.func323.trans (congrArg some (by kernel_rfl))
 f206:=Tryz.func366.trans (congrArg some (by kernel_rfl))
 t3:=Tryz.underlying3
 a3:=Tryz.isAgg3
 z3:=Tryz.sizeOf3
 v3:=Tryz.zeroValue3
 t4:=Tryz.underlying4
 a4:=Tryz.isAgg4
 z4:=Tryz.sizeOf4
 v4:=Tryz.zeroValue4
 t9:=Tryz.underlying9
 a9:=Tryz.isAgg9
 z9:=Tryz.sizeOf9
 v9:=Tryz.zeroValue9 }
open Go.RowKit Go.Lib in
theorem Tryz.strings_HasPrefix (s p:ByteArray) (w:World):
  Calls Tryz.prog 323 #[.string s,.string p] w fun e w'=>e=.returned (.bool (Lib.hasPrefix s.data.toList p.data.toList))∧w'=w:=Any.strings_HasPrefix Tryz.lays99 s p w
def Tryz.lays146_ren:Go.Shelf.Ren:=⟨fun | 146=>243 | 221=>313 | 268=>360 | 138=>361 | 143=>362 | 195=>384 | 197=>385 | 218=>386 | 219=>387 | 260=>393 | 217=>248 | 225=>394 | 224=>395 | 267=>396 | 266=>318 | 314=>399|n=>n,fun | 9=>9 | 31=>43 | 3=>3 | 4=>4 | 0=>0 | 105=>378 | 21=>21 | 5=>5 | 46=>233 | 119=>385 | 139=>388 | 138=>387 | 146=>389 | 51=>293|n=>n,fun | 1=>3 | 3=>4 | 4=>5|n=>n⟩
theorem Tryz.lays146:Go.Proofs.Lays.n146 Tryz.prog Tryz.lays146_ren:={
 mixed:=by kernel_rfl
 f138:=Tryz.func361.trans (congrArg some (by kernel_rfl))
 f143:=Tryz.func362.trans (congrArg some (by kernel_rfl))
 f146:=Tryz.func243.trans (congrArg some (by kernel_rfl))
 f195:=Tryz.func384.trans (congrArg some (by kernel_rfl))
 f197:=Tryz.func385.trans (congrArg some (by kernel_rfl))
 f217:=Tryz.func248.trans (congrArg some (by kernel_rfl))
 f218:=Tryz.func386.trans (congrArg some (by kernel_rfl))
 f219:=Tryz.func387.trans (congrArg some (by kernel_rfl))
 f221:=Tryz.func313.trans (congrArg some (by kernel_rfl))
 f224:=Tryz.func395.trans (congrArg some (by kernel_rfl))
 f225:=Tryz.func394.trans (congrArg some (by kernel_rfl))
 f260:=Tryz.func393.trans (congrArg some (by kernel_rfl))
 f266:=Tryz.func318.trans (congrArg some (by kernel_rfl))
 f267:=Tryz.func396.trans (congrArg some (by kernel_rfl))
 f268:=Tryz.func360.trans (congrArg some (by kernel_rfl))
 f314:=Tryz.func399.trans (congrArg some (by kernel_rfl))
 t0:=Tryz.underlying0
 a0:=Tryz.isAgg0
 z0:=Tryz.sizeOf0
 v0:=Tryz.zeroValue0
 t3:=Tryz.underlying3
 a3:=Tryz.isAgg3
 z3:=Tryz.sizeOf3
 v3:=Tryz.zeroValue3
 t4:=Tryz.underlying4
 a4:=Tryz.isAgg4
 z4:=Tryz.sizeOf4
 v4:=Tryz.zeroValue4
 t5:=Tryz.underlying5
 a5:=Tryz.isAgg5
 z5:=Tryz.sizeOf5
 v5:=Tryz.zeroValue5
 t9:=Tryz.underlying9
 a9:=Tryz.isAgg9
 z9:=Tryz.sizeOf9
 v9:=Tryz.zeroValue9
 t21:=Tryz.underlying21
 a21:=Tryz.isAgg21
 z21:=Tryz.sizeOf21
 v21:=Tryz.zeroValue21
 t31:=Tryz.underlying43
 a31:=Tryz.isAgg43
 z31:=Tryz.sizeOf43
 v31:=Tryz.zeroValue43
 t46:=Tryz.underlying233
 a46:=Tryz.isAgg233
 z46:=Tryz.sizeOf233
 v46:=Tryz.zeroValue233
 t51:=Tryz.underlying293
 a51:=Tryz.isAgg293
 z51:=Tryz.sizeOf293
 v51:=Tryz.zeroValue293
 t105:=Tryz.underlying378
 a105:=Tryz.isAgg378
 z105:=Tryz.sizeOf378
 v105:=Tryz.zeroValue378
 t119:=Tryz.underlying385
 a119:=Tryz.isAgg385
 z119:=Tryz.sizeOf385
 t138:=Tryz.underlying387
 a138:=Tryz.isAgg387
 z138:=Tryz.sizeOf387
 v138:=Tryz.zeroValue387
 t139:=Tryz.underlying388
 a139:=Tryz.isAgg388
 z139:=Tryz.sizeOf388
 v139:=Tryz.zeroValue388
 t146:=Tryz.underlying389
 a146:=Tryz.isAgg389
 z146:=Tryz.sizeOf389
 v146:=Tryz.zeroValue389
 g1:=by kernel_rfl
 g3:=by kernel_rfl
 g4:=by kernel_rfl }
open Go.RowKit Go.Lib in
theorem Tryz.strings_Split (s sep:ByteArray) (m:Int) (w:World) (hs:s.size<4294967281) (hm:w.cell? ⟨3,0,none⟩=some (.int .i64 m)) (h1:1≤sep.size):
  Calls Tryz.prog 243 #[.string s,.string sep] w fun e w' =>
   e=.returned (.slice (some ⟨w.heap.size,0,none⟩) (Lib.countB s sep+1) (Lib.countB s sep+1))∧w'=w.alloc (.cells ((Lib.splitB sep 0 (Lib.countB s sep) s).map Value.string).toArray 9):=Any.strings_Split Tryz.lays146 (by kernel_rfl) s sep m w hs hm h1
def Tryz.laysM146_ren:Go.Shelf.Ren:=⟨fun | 146=>243 | 221=>313 | 268=>360 | 138=>361 | 143=>362 | 195=>384 | 197=>385 | 218=>386 | 219=>387 | 260=>393 | 217=>248 | 225=>394 | 224=>395 | 267=>396 | 266=>318 | 314=>399|n=>n,fun | 9=>9 | 31=>43 | 3=>3 | 4=>4 | 0=>0 | 105=>378 | 21=>21 | 5=>5 | 46=>233 | 119=>385 | 139=>388 | 138=>387 | 146=>389 | 51=>293|n=>n,fun | 1=>3 | 3=>4 | 4=>5|n=>n⟩
theorem Tryz.laysM146:Go.Proofs.LaysM.n146 Tryz.prog Tryz.laysM146_ren:={
 mixed:=by kernel_rfl
 f138:=Tryz.func361.trans (congrArg some (by kernel_rfl))
 f143:=Tryz.func362.trans (congrArg some (by kernel_rfl))
 f146:=Tryz.func243.trans (congrArg some (by kernel_rfl))
 f195:=Tryz.func384.trans (congrArg some (by kernel_rfl))
 f197:=Tryz.func385.trans (congrArg some (by kernel_rfl))
 f217:=Tryz.func248.trans (congrArg some (by kernel_rfl))
 f218:=Tryz.func386.trans (congrArg some (by kernel_rfl))
 f219:=Tryz.func387.trans (congrArg some (by kernel_rfl))
 f221:=Tryz.func313.trans (congrArg some (by kernel_rfl))
 f224:=Tryz.func395.trans (congrArg some (by kernel_rfl))
 f225:=Tryz.func394.trans (congrArg some (by kernel_rfl))
 f260:=Tryz.func393.trans (congrArg some (by kernel_rfl))
 f266:=Tryz.func318.trans (congrArg some (by kernel_rfl))
 f267:=Tryz.func396.trans (congrArg some (by kernel_rfl))
 f268:=Tryz.func360.trans (congrArg some (by kernel_rfl))
 f314:=Tryz.func399.trans (congrArg some (by kernel_rfl))
 t0:=Tryz.underlying0
 a0:=Tryz.isAgg0
 z0:=Tryz.sizeOf0
 v0:=Tryz.zeroValue0
 t3:=Tryz.underlying3
 a3:=Tryz.isAgg3
 z3:=Tryz.sizeOf3
 v3:=Tryz.zeroValue3
 t4:=Tryz.underlying4
 a4:=Tryz.isAgg4
 z4:=Tryz.sizeOf4
 v4:=Tryz.zeroValue4
 t5:=Tryz.underlying5
 a5:=Tryz.isAgg5
 z5:=Tryz.sizeOf5
 v5:=Tryz.zeroValue5
 t9:=Tryz.underlying9
 a9:=Tryz.isAgg9
 z9:=Tryz.sizeOf9
 v9:=Tryz.zeroValue9
 t21:=Tryz.underlying21
 a21:=Tryz.isAgg21
 z21:=Tryz.sizeOf21
 v21:=Tryz.zeroValue21
 t31:=Tryz.underlying43
 a31:=Tryz.isAgg43
 z31:=Tryz.sizeOf43
 v31:=Tryz.zeroValue43
 t46:=Tryz.underlying233
 a46:=Tryz.isAgg233
 z46:=Tryz.sizeOf233
 v46:=Tryz.zeroValue233
 t51:=Tryz.underlying293
 a51:=Tryz.isAgg293
 z51:=Tryz.sizeOf293
 v51:=Tryz.zeroValue293
 t105:=Tryz.underlying378
 a105:=Tryz.isAgg378
 z105:=Tryz.sizeOf378
 v105:=Tryz.zeroValue378
 t119:=Tryz.underlying385
 a119:=Tryz.isAgg385
 z119:=Tryz.sizeOf385
 t138:=Tryz.underlying387
 a138:=Tryz.isAgg387
 z138:=Tryz.sizeOf387
 v138:=Tryz.zeroValue387
 t139:=Tryz.underlying388
 a139:=Tryz.isAgg388
 z139:=Tryz.sizeOf388
 v139:=Tryz.zeroValue388
 t146:=Tryz.underlying389
 a146:=Tryz.isAgg389
 z146:=Tryz.sizeOf389
 v146:=Tryz.zeroValue389
 g1:=by kernel_rfl
 g3:=by kernel_rfl
 g4:=by kernel_rfl
 i0:=by kernel_rfl
 i3:=by kernel_rfl
 i4:=by kernel_rfl
 i5:=by kernel_rfl
 i9:=by kernel_rfl
 i21:=by kernel_rfl
 i31:=by kernel_rfl
 i46:=by kernel_rfl
 i51:=by kernel_rfl
 i105:=by kernel_rfl
 i138:=by kernel_rfl
 i139:=by kernel_rfl
 i146:=by kernel_rfl
 m1:=by kernel_rfl
 s1_3:=fun w h=>Go.Proofs.cell_of_shapedOpen_int (zero:=#[.int .i64 0]) (t:=3) h (of_decide_eq_true (by kernel_rfl)) (by kernel_rfl) rfl (by kernel_rfl) (by kernel_rfl) Tryz.underlying3
 m3:=by kernel_rfl
 m4:=by kernel_rfl }
open Go.RowKit Go.Sort in
theorem Tryz.slices_Sort_string_none (p:Option Addr) (cap:Nat) (w:World):
  Calls Tryz.prog 133 #[.slice p 0 cap] w fun e w'=>e=.returned (.tuple #[])∧w'=w:=Any.slices_Sort_string_none Tryz.lays190 p cap w
open Go.RowKit Go.Sort in
theorem Tryz.slices_Sort_int_none (p:Option Addr) (cap:Nat) (w:World):
  Calls Tryz.prog 202 #[.slice p 0 cap] w fun e w'=>e=.returned (.tuple #[])∧w'=w:=Any.slices_Sort_int_none Tryz.lays189 p cap w
def Tryz.lays187_ren:Go.Shelf.Ren:=⟨fun | 187=>254 | 255=>321|n=>n,fun | 37=>40 | 5=>5 | 3=>3|n=>n,fun|n=>n⟩
theorem Tryz.lays187:Go.Proofs.Lays.n187 Tryz.prog Tryz.lays187_ren:={
 mixed:=by kernel_rfl
 f187:=Tryz.func254.trans (congrArg some (by kernel_rfl))
 f255:=Tryz.func321.trans (congrArg some (by kernel_rfl))
 t3:=Tryz.underlying3
 a3:=Tryz.isAgg3
 z3:=Tryz.sizeOf3
 v3:=Tryz.zeroValue3
 t5:=Tryz.underlying5
 a5:=Tryz.isAgg5
 z5:=Tryz.sizeOf5
 v5:=Tryz.zeroValue5
 t37:=Tryz.underlying40
 a37:=Tryz.isAgg40
 z37:=Tryz.sizeOf40
 v37:=Tryz.zeroValue40 }
open Go.RowKit Go.Lib in
theorem Tryz.bytes_IndexByte_at (a:Addr) (n c:Nat) (xs:List Int) (cv:Int) (w:World) (hx:xs.length=n) (hc:∀ i,i<n→w.cell? (a.add i)=some (.int .u8 (xs.getD i 0))):
  Calls Tryz.prog 254 #[.slice (some a) n c,.int .u8 cv] w fun e w'=>e=.returned (.int .i64 (Lib.indexByte (Lib.bytesOf xs) cv.toNat.toUInt8))∧w'=w:=Any.bytes_IndexByte_at Tryz.lays187 a n c xs cv w hx hc
end
end Go.Proofs
namespace Go.Proofs.YtbpblnmhlhpebaaGreatDoor
open Go Go.Dm
section
theorem pL {a:List UInt8} {c:Int} (ha:a.length<4611686018427387904):aA Tryz.prog 176 [.c (.p (.s a)),.c (.p (.i .u8 c))] [] fun r h=>r=.c (.p (.i .i64 (Lib.indexByte a c.toNat.toUInt8)))∧h=[] :=
 oU (N:=4611686018427387904) (g:=fun a c=>Lib.indexByte a c.toNat.toUInt8) (enters Tryz.func176 rfl rfl) (fun a c w _=>Tryz.strings_IndexByte ⟨a.toArray⟩ c w) ha
theorem zBy {a:List UInt8} (ha:a.length<4294967281):aA Tryz.prog 243 [.c (.p (.s a)),.c (.p (.s [47]))] [] fun r h=>r=.c (.p (.sl 1 (Go.Dm.encS (oL a))))∧h=[]:=by
 rw [← zAP]
 exact MQ (g1:=Tryz.laysM146_ren.g 1) (enters Tryz.func243 rfl rfl) (fun w h=>Tryz.laysM146.s1_3 w h) (fun s sep m w h1 h2 h3=>Tryz.strings_Split s sep m w h1 h2 h3) ha (by decide)
theorem mH {d:List UInt8} {c:Int} (hd:d≠[]):aA Tryz.prog 254 [.c (.p (.sl 1 (bT d))),.c (.p (.i .u8 c))] [] fun r h=>r=.c (.p (.i .i64 (Lib.indexByte d c.toNat.toUInt8)))∧h=[] :=
 xF (g:=fun a c=>Lib.indexByte a c.toNat.toUInt8) (enters Tryz.func254 rfl rfl) (fun a n c xs cv w h1 h2=>Tryz.bytes_IndexByte_at a n c xs cv w h1 h2) hd
theorem pA {s:List UInt8} (hs:s.length≤1000000000):aA Tryz.prog 109 [.c (.p (.s s))] [] fun r h=>r=.c (.p (.b (aX s)))∧h=[]:=by
 have e0:decide (Lib.indexByte s (Int.toNat 0).toUInt8<0)=s.all fun b=>!(b == 0):=indexByte_none 0 s
 have e1:decide (Lib.indexByte s (Int.toNat 47).toUInt8<0)=s.all fun b=>!(b == 47):=indexByte_none 47 s
 have e2:decide ((1:Int)≤s.length) = !(s == []):=by cases s <;> simp <;> omega
 have key:aX s=(!(s == []) && decide ((s.length:Int)≤24) && (s.all fun b=>!(b == 0)) && (s.all fun b=>!(b == 47)) && !(s == [46]) && !(s == [46,46])):=by
  unfold aX
  rw [CK,e2]
  cases (s == []) <;> cases decide ((s.length:Int)≤24) <;> cases (s.all fun b=>!(b == 0)) <;> cases (s.all fun b=>!(b == 47)) <;> cases (s == [46]) <;> rfl
 rw [key]
 clear key e2
 generalize (s.all fun b=>!(b == 0))=q0 at e0 ⊢
 generalize (s.all fun b=>!(b == 47))=q1 at e1 ⊢
 refine ent aB aK Tryz.func109 rfl rfl fun X0 hX=>?_
 simp only [Tryz.f109,go_sem]
 repeat' (first|simp only [*,go_sem,Nat.reduceLT,Nat.reduceEqDiff,↓reduceIte,Int.reduceToNat]|((with_reducible refine aQ (pL (by omega)) ?_ ?_ ?_);exact rfl;exact rfl)|with_reducible refine bF (fun _=>?_) (fun _=>?_))
 all_goals first|(simp_all;done)|(simp_all;intros;omega)
theorem eQ {p:List UInt8} (hp:p.length≤1000000000):aA Tryz.prog 169 [.c (.p (.s p))] [] fun r h=>r=.c (.p (.b (bV p)))∧h=[]:=by
 by_cases h0:p=[]
 ·subst h0
  refine ent aB aK Tryz.func169 rfl rfl fun X0 hX=>?_
  simp only [Tryz.f169,go_sem]
  repeat' (simp only [*,go_sem,Nat.reduceLT,Nat.reduceEqDiff,↓reduceIte,beq_self_eq_true])
  rfl
 ·have q0:(p == [])=false:=by simpa using h0
  have hle:∀ x∈oL p,x.length≤p.length:=fun x hx=>by have:=rV p [] x hx;simpa using this
  have hln:(oL p).length≤p.length+1:=nY p []
  refine ent aB aK Tryz.func169 rfl rfl fun X0 hX=>?_
  simp only [Tryz.f169,go_sem]
  repeat' (first|simp only [*,go_sem,Nat.reduceLT,Nat.reduceEqDiff,↓reduceIte]|((with_reducible refine bK (zBy (by omega)) ?_ ?_ ?_);exact rfl;exact fun _=>rfl))
  have key:bV p=((oL p).all aX && decide ((p.length:Int)≤120)):=by rw [bV,q0,Bool.false_or]
  generalize oL p=cs at *
  refine aY aB aK (α:=Nat) (fun k=>⟨21,[(0,.c (.p (.s p))),(8,.c (.p (.sl 1 (Go.Dm.encS cs)))),(9,.c (.p (.i .i64 cs.length))),(10,.c (.p (.i .i64 k)))],[]⟩)
   (fun k=>k≤cs.length∧(cs.drop k).all aX=cs.all aX) (fun k=>cs.length-k) 0 ⟨Nat.zero_le _,rfl⟩ (.inl (aI (by rw [hX];rfl) rfl rfl (by simp [aH,aL,aC,aG,aF]))) ?_
  rintro k ⟨hk,hs⟩
  by_cases hlt:k<cs.length
  ·have hx:cs[k]? = some cs[k]:=List.getElem?_eq_getElem hlt
   have hg:=Go.Dm.encS_at hx
   have hdr:=drop_at hx
   have h1:decide ((k:Int)<(cs.length:Int))=true:=decide_eq_true (by omega)
   have w1:IntKind.i64.wrap ((k:Int)+1)=k+1:=wrap_i64 (by omega) (by omega)
   have hxl:=hle _ (List.getElem_mem hlt)
   generalize cs[k]=x at hx hg hdr hxl
   rw [hdr,List.all_cons] at hs
   clear hdr hle
   cases hb:aX x
   ·rw [hb,Bool.false_and] at hs
    rw [key,← hs]
    clear key hs
    repeat' (first|simp only [*,go_sem,Nat.reduceLT,Nat.reduceEqDiff,↓reduceIte]|((with_reducible refine aQ (pA (by omega)) ?_ ?_ ?_);exact rfl;exact rfl)|((with_reducible refine And.intro ?_ ?_);(focus (omega))))
   ·rw [hb,Bool.true_and] at hs
    have hs':k+1≤cs.length∧(cs.drop (k+1)).all aX=cs.all aX:=⟨by omega,hs⟩
    clear hs key
    repeat' (first|simp only [*,go_sem,Nat.reduceLT,Nat.reduceEqDiff,↓reduceIte]|((with_reducible refine aQ (pA (by omega)) ?_ ?_ ?_);exact rfl;exact rfl)|((with_reducible refine And.intro ?_ ?_);(focus (omega))))
    exact eM (k+1) hs' (by omega) (aI rfl rfl rfl (by simp [aH,aL,aC,aG,aF]))
  ·have h1:decide ((k:Int)<(cs.length:Int))=false:=decide_eq_false (by omega)
   rw [List.drop_of_length_le (by omega),List.all_nil] at hs
   rw [key,← hs,Bool.true_and]
   clear key hs hle
   repeat' (simp only [*,go_sem,Nat.reduceLT,Nat.reduceEqDiff,↓reduceIte])
theorem zK7 {k m:Int} {t:Nat} {d:List UInt8}:aA Tryz.prog 245 [.agg (ndc k m t d)] [] fun r h=>r=.c (.p (.b (zD0 ⟨k,m,t,d⟩)))∧h=[]:=by
 have e0:decide (Lib.indexByte d (Int.toNat 0).toUInt8<0)=d.all fun b=>!(b == 0):=indexByte_none 0 d
 by_cases hd:d=[]
 ·subst hd
  refine ent aB aK Tryz.func245 rfl rfl fun X0 hX=>?_
  simp only [Tryz.f245,go_sem]
  repeat' (first|simp only [*,go_sem,Nat.reduceLT,Nat.reduceEqDiff,↓reduceIte,Int.reduceLE,beq_self_eq_true]|with_reducible refine aM (fun _=>?_) (fun _=>?_))
  all_goals simp_all [zD0]
 ·have h1:decide ((1:Int)≤(d.length:Int))=true:=by
   have:=List.length_pos_iff.2 hd
   exact decide_eq_true (by omega)
  refine ent aB aK Tryz.func245 rfl rfl fun X0 hX=>?_
  simp only [Tryz.f245,go_sem]
  unfold zD0
  generalize (d.all fun b=>!(b == 0))=q0 at e0 ⊢
  repeat' (first|simp only [*,go_sem,Nat.reduceLT,Nat.reduceEqDiff,↓reduceIte,Int.reduceToNat]|((with_reducible refine aQ (mH hd) ?_ ?_ ?_);exact rfl;exact rfl)|with_reducible refine aM (fun _=>?_) (fun _=>?_)|with_reducible refine bF (fun _=>?_) (fun _=>?_))
  all_goals first|(simp_all;done)|(simp_all;intros;omega)
theorem dL {k m:Int} {t:Nat} {d:List UInt8} (ht:t<18446744073709551616):aA Tryz.prog 170 [.agg (ndc k m t d)] [] fun r h=>r=.c (.p (.b (aU ⟨k,m,t,d⟩)))∧h=[]:=by
 rw [← EJ (n:=⟨k,m,t,d⟩) ht]
 refine ent aB aK Tryz.func170 rfl rfl fun X0 hX=>?_
 simp only [Tryz.f170,go_sem]
 repeat' (first|simp only [*,go_sem,Nat.reduceLT,Nat.reduceLeDiff,Nat.reduceEqDiff,↓reduceIte,Nat.reduceAdd]|((with_reducible refine aQ (zK7) ?_ ?_ ?_);exact rfl;exact rfl)|((refine aP (id:=1) aB aK [] [0,1,2,3,4,5,6,7,8] (by decide +kernel) ?_);(repeat' (first|(refine bA ?_)|((refine cQ ?_ rfl rfl ?_ ?_);(rotate_left 1);(focus ((repeat' (first|simp only [*,go_sem,Nat.reduceLT,Nat.reduceEqDiff,↓reduceIte]|((with_reducible refine aQ (cX _) ?_ ?_ ?_);exact rfl;exact rfl)|((with_reducible refine aQ (xB _) ?_ ?_ ?_);exact rfl;exact rfl)));exact rfl));(simp only [aJ])))))|with_reducible refine bF (fun _=>?_) (fun _=>?_))
 all_goals first|(simp_all [oH,xS];done)|(simp_all [oH];intros;omega)
end
section
theorem zFw {x:Nat}:aA Tryz.prog 161 [.c (.p (.f x))] [] fun r h=>r=.c (.p (.b (zL x)))∧h=[]:=by
 refine ent aB aK Tryz.func161 rfl rfl fun X0 hX=>?_
 simp only [Tryz.f161,go_sem]
 repeat' (first|simp (maxSteps:=1000000) only [*,go_sem,Nat.reduceLT,Nat.reduceLeDiff,Nat.reduceEqDiff,↓reduceIte,Nat.reduceAdd,Int.reduceLE,Int.reduceSub,Int.reduceMul,Int.reduceNeg,Int.reduceToNat,Nat.reduceBEq,LC,HJ,PJ,Nat.min_def,decide_true,decide_false,zCb,TH]|((refine aP (id:=5) aB aK [] [0,1,2,3,4,5,6,7,8,9,10,11] (by decide +kernel) ?_);(repeat' (first|(refine bA ?_)|((refine cQ ?_ rfl rfl ?_ ?_);(rotate_left 1);(focus ((repeat' (simp (maxSteps:=1000000) only [*,go_sem,Nat.reduceLT,Nat.reduceEqDiff,↓reduceIte]));exact rfl));(simp only [aJ])))))|((with_reducible refine zMt aB aK Tryz.func229 rfl rfl fun _ _=>?_);simp only [Tryz.f229,go_sem])|((with_reducible refine zMt aB aK Tryz.func305 rfl rfl fun _ _=>?_);simp only [Tryz.f305,go_sem])|((with_reducible refine aQ (xB _) ?_ ?_ ?_);exact rfl;exact rfl)|((with_reducible refine aQ (zBs _) ?_ ?_ ?_);exact rfl;exact rfl)|refine fG aB aK 9 ?_|((with_reducible refine And.intro ?_ ?_);(focus (decide))))
 all_goals rfl
theorem KQ {k m:Int} {t:Nat} {d:List UInt8} (hd:d.length≤1000000000):aA Tryz.prog 91 [.agg (ndc k m t d)] [] fun r h=>r=.c (.p (.b (aU ⟨k,m,t,d⟩)))∧h=[]:=by
 refine ent aB aK Tryz.func91 rfl rfl fun X0 hX=>?_
 simp only [Tryz.f91,go_sem]
 repeat' (first|simp (maxSteps:=1000000) only [*,go_sem,Nat.reduceLT,Nat.reduceEqDiff,↓reduceIte]|((with_reducible refine aQ (zFw) ?_ ?_ ?_);exact rfl;exact rfl)|((with_reducible refine bK (zEf hd) ?_ ?_ ?_);exact rfl;exact fun _=>rfl)|with_reducible refine aM (fun _=>?_) (fun _=>?_)|with_reducible refine bF (fun _=>?_) (fun _=>?_))
 all_goals simp only [aU, *,Bool.not_true,Bool.not_false,Bool.or_false,Bool.or_true,Bool.true_or,Bool.true_and,Bool.false_and,↓reduceIte,Bool.false_eq_true]
theorem NB {t:List It} {p:List UInt8} {k m:Int} {tt:Nat} {d:List UInt8} (ht:t.length≤1000000-1) (hp:p.length≤1000000000) (hq:∀ x∈t,x.p.length≤9223372036854775807) (hd:d.length≤1000000000):
  aA Tryz.prog 37 [.c (.p (.sl 5 (aT t))),.c (.p (.s p)),.agg (ndc k m tt d)] [] fun r h =>
   r=.tup [.c (.p (.sl 5 (aT (jQ t p ⟨k,m,tt,d⟩).1))),.c (.p (.i .i64 (jQ t p ⟨k,m,tt,d⟩).2))]∧h=[]:=by
 have h1:=lK t p
 have h2:=lP t p ⟨k,m,tt,d⟩
 have h3:=lP (bD t p) p ⟨k,m,tt,d⟩
 have hp2:p.length≤4611686018427387904:=by omega
 refine bJ ?_
 refine ent aB aK Tryz.func37 rfl rfl fun X0 hX=>?_
 simp only [Tryz.f37,go_sem]
 repeat' (first|simp (maxSteps:=1000000) only [*,go_sem,Nat.reduceLT,Nat.reduceLeDiff,Nat.reduceEqDiff,↓reduceIte,Nat.reduceAdd]|((with_reducible refine aQ (yN hp) ?_ ?_ ?_);exact rfl;exact rfl)|((with_reducible refine aQ (KQ hd) ?_ ?_ ?_);exact rfl;exact rfl)|((with_reducible refine aQ (VB hp2) ?_ ?_ ?_);exact rfl;exact rfl)|((with_reducible refine aQ (oE (t:=t) (by omega)) ?_ ?_ ?_);exact rfl;exact rfl)|((with_reducible refine bK (wE (t:=t) (by omega) hp2 hq) ?_ ?_ ?_);exact rfl;exact fun _=>rfl)|((with_reducible refine bK (TN (t:=t) (by omega)) ?_ ?_ ?_);exact rfl;exact fun _=>rfl)|((with_reducible refine bK (TN (t:=bD t p) (by omega)) ?_ ?_ ?_);exact rfl;exact fun _=>rfl)|with_reducible refine aM (fun _=>?_) (fun _=>?_)|with_reducible refine bF (fun _=>?_) (fun _=>?_))
 all_goals simp only [jQ, *,Bool.or_false,Bool.or_true,Bool.true_or,↓reduceIte,Bool.false_eq_true,dR]
 all_goals simp
end
end Go.Proofs.YtbpblnmhlhpebaaGreatDoor
